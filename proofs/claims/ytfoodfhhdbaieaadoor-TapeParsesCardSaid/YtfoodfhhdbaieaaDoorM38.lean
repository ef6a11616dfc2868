-- CUT by a program of this session: what the claim does not use is left out
import Derived.Test.YtfoodfhhdbaieaaDoorM34
import Derived.Test.YtfoodfhhdbaieaaDoorT43
namespace Go.Proofs.YtfoodfhhdbaieaaDoor.Giv
set_option maxRecDepth 100000
set_option linter.unusedVariables false
set_option linter.unusedSimpArgs false
open Go.RowKit Go.Shelf Go.Proofs.YtfoodfhhdbaieaaDoorW.PrintWords Go.Proofs.YtfoodfhhdbaieaaDoorW.PrintLast Go.Proofs.YtfoodfhhdbaieaaDoorW.PrintMore
open Go.Proofs.YtfoodfhhdbaieaaDoor.Ka (S40 k40 z40 rd_T40 at_T40 k40_open k40_mk rd_L1 at_L1 info3 info38 info40)
theorem equal_same (A B : Option Addr) (c d : Nat) (l : List Int) (w : World) (hA : Kd.C (Kd.int .i64) w A l.length l) (hB : Kd.C (Kd.int .i64) w B l.length l) (hc : l.length ≤ c) (hd : l.length ≤ d) (hl : l.length ≤ 1000000) :
  Calls Tryd.prog 20 #[.slice A l.length c, .slice B l.length d] w fun e w' => e = .returned (.bool true) ∧ ∃ n, w' = w.drewN n := by
 obtain ⟨k, hk⟩ := equal_ev (l := l) (m := l) hl
 have h := hk k (Nat.le_refl _)
 rw [decide_eq_true rfl] at h
 refine (Ka.commodatumref20_Equal.calls k A c l B d l true w hA hc hB hd h).mono ?_
 rintro e w' ⟨rfl, n, rfl⟩
 exact ⟨rfl, n, rfl⟩
theorem five_cells {W : World} {g : Nat} {c0 c1 c2 c3 c4 : Value} (h : W.heap[g]? = some (.cells #[c0, c1, c2, c3, c4] 40 (0, 0))) : W.cell? ⟨g, 0, none⟩ = some c0 ∧ W.cell? ⟨g, 1, none⟩ = some c1 ∧ W.cell? ⟨g, 2, none⟩ = some c2 ∧ W.cell? ⟨g, 3, none⟩ = some c3 ∧ W.cell? ⟨g, 4, none⟩ = some c4 ∧ W.frozen? ⟨g, 0, none⟩ = false ∧ W.frozen? ⟨g, 1, none⟩ = false ∧ W.frozen? ⟨g, 2, none⟩ = false ∧ W.frozen? ⟨g, 3, none⟩ = false ∧ W.frozen? ⟨g, 4, none⟩ = false :=
 ⟨(blk_cell h 0).trans rfl, (blk_cell h 1).trans rfl, (blk_cell h 2).trans rfl, (blk_cell h 3).trans rfl, (blk_cell h 4).trans rfl, blk_frozen h 0, blk_frozen h 1, blk_frozen h 2, blk_frozen h 3, blk_frozen h 4⟩
theorem set5_get {W : World} {g : Nat} {z0 z1 z2 z3 z4 : Value} (h : W.heap[g]? = some (.cells #[z0, z1, z2, z3, z4] 40 (0, 0))) (c0 c1 c2 c3 c4 : Value) :
  (((((W.setCell ⟨g, 0, none⟩ c0).setCell ⟨g, 1, none⟩ c1).setCell ⟨g, 2, none⟩ c2).setCell ⟨g, 3, none⟩ c3).setCell ⟨g, 4, none⟩ c4).heap[g]? = some (.cells #[c0, c1, c2, c3, c4] 40 (0, 0)) :=
 blk_set (blk_set (blk_set (blk_set (blk_set h 0 c0) 1 c1) 2 c2) 3 c3) 4 c4
theorem set5_other {W : World} {g k : Nat} (h : k ≠ g) (c0 c1 c2 c3 c4 : Value) :
  (((((W.setCell ⟨g, 0, none⟩ c0).setCell ⟨g, 1, none⟩ c1).setCell ⟨g, 2, none⟩ c2).setCell ⟨g, 3, none⟩ c3).setCell ⟨g, 4, none⟩ c4).heap[k]? = W.heap[k]? :=
 ((Below.heap_setCell _ _ _ _ (by exact h)).trans ((Below.heap_setCell _ _ _ _ (by exact h)).trans ((Below.heap_setCell _ _ _ _ (by exact h)).trans ((Below.heap_setCell _ _ _ _ (by exact h)).trans (Below.heap_setCell _ _ _ _ (by exact h))))))
theorem set5_below {w W : World} {g : Nat} (h : Below w.heap.size w W) (hg : w.heap.size ≤ g) (c0 c1 c2 c3 c4 : Value) :
  Below w.heap.size w (((((W.setCell ⟨g, 0, none⟩ c0).setCell ⟨g, 1, none⟩ c1).setCell ⟨g, 2, none⟩ c2).setCell ⟨g, 3, none⟩ c3).setCell ⟨g, 4, none⟩ c4) :=
 below_set (below_set (below_set (below_set (below_set h hg) hg) hg) hg) hg
theorem set5_size {W : World} {g : Nat} (c0 c1 c2 c3 c4 : Value) :
  (((((W.setCell ⟨g, 0, none⟩ c0).setCell ⟨g, 1, none⟩ c1).setCell ⟨g, 2, none⟩ c2).setCell ⟨g, 3, none⟩ c3).setCell ⟨g, 4, none⟩ c4).heap.size = W.heap.size := by simp
def PairAt (W0 W : World) (g6 g7 : Nat) (r : S40) (A1 A3 A4 B1 B3 B4 : Option Addr) (c1 c3 c4 d1 d3 d4 : Nat) : Prop :=
 W.heap[g6]? = some (.cells #[.int .i64 r.f0, .slice A1 r.f1.length c1, .int .i64 r.f2, .slice A3 r.f3.length c3, .slice A4 r.f4.length c4] 40 (0, 0)) ∧ W.heap[g7]? = some (.cells #[.int .i64 r.f0, .slice B1 r.f1.length d1, .int .i64 r.f2, .slice B3 r.f3.length d3, .slice B4 r.f4.length d4] 40 (0, 0)) ∧ Below W0.heap.size W0 W
def reg15_6.T : Bool × List (List Nat × List Nat) := (true, [([], []), ([0], [0]), ([], []), ([1, 2], [1, 2]), ([3], [3]), ([], []), ([5], [5]), ([], []), ([6, 7], [6, 7]), ([8], [8]), ([], []), ([], []), ([10, 4, 0, 1, 2, 3, 4, 10, 11], [4, 10]), ([11, 9, 12, 0, 1, 2, 3, 4, 5, 6, 7, 8, 9, 10, 11, 12], [9, 11])])
def reg15_6.B : List Nat := [0, 1, 0, 7, 15, 0, 32, 0, 224, 480, 0, 0, 3103, 8191]
theorem reg15_6.tab : rtab .any (opsOf Tryd.f15 6) = reg15_6.T := by kernel_rfl
theorem reg15_6.bits : waitsOk reg15_6.T.2 reg15_6.B = true := by kernel_rfl
set_option maxHeartbeats 16000000 in
theorem same_calls (a0 a1 a2 : Int) (A B : Option Addr) (c d : Nat) (l : List S40) (w : World) (hA : Kd.C k40 w A l.length l) (hB : Kd.C k40 w B l.length l) (hc : l.length ≤ c) (hd : l.length ≤ d) (hn : l.length ≤ 1000000) (hf : ∀ r ∈ l, r.f1.length ≤ 1000000 ∧ r.f3.length ≤ 1000000 ∧ r.f4.length ≤ 1000000) :
  Calls Tryd.prog 15 #[.agg #[.int .i64 a0, .int .i64 a1, .int .i64 a2, .slice A l.length c], .agg #[.int .i64 a0, .int .i64 a1, .int .i64 a2, .slice B l.length d]] w fun e w' => e = .returned (.bool true) ∧ Below w.heap.size w w' := by
 have HRA := Aside0.mk hA
 have HRB := Aside0.mk hB
 have HN := Aside0.mk hn
 have HF := Aside0.mk hf
 clear hA hB hc hd hn hf
 go_enter Tryd.func15, Tryd.ntmps15
 go_upto_region 1 with (first
  | ((with_reducible refine gate_dst (N := 2) rfl ?_); refine box_event ?hg (N := 2) ?hd (cs := #[.int .i64 a0, .int .i64 a1, .int .i64 a2, .slice A l.length c]) (t := 24) ?hr ?_; (case hd => rfl); (case hg => rfl); (case hr => first | (go_simp; done) | (go_simp; rfl)); intro ga hga w1 hbox hb; have HA1 := Aside0.mk hbox; have HB1 := Aside0.mk hb; clear hbox hb hga)
  | ((with_reducible refine gate_dst (N := 3) rfl ?_); refine box_event ?hg (N := 3) ?hd (cs := #[.int .i64 a0, .int .i64 a1, .int .i64 a2, .slice B l.length d]) (t := 24) ?hr ?_; (case hd => rfl); (case hg => rfl); (case hr => first | (go_simp; done) | (go_simp; rfl)); intro gb hgb w2 hbox hb; have HBX := Aside0.mk hbox; have HB2 := Aside0.mk hb; clear hbox hb hgb))
 have HAX : Aside0 (w2.heap[ga]? = some (.cells #[.int .i64 a0, .int .i64 a1, .int .i64 a2, .slice A l.length c] 24 (0, 0))) := ⟨(HB2.out.block _ (Array.getElem?_eq_some_iff.1 HA1.out).1).trans HA1.out⟩
 have HBW : Aside0 (Below w.heap.size w w2) := ⟨below_step HB1.out HB2.out⟩
 clear HA1 HB1 HB2
 obtain ⟨k0, k1, k2, k3⟩ := box_cells HAX.out
 obtain ⟨m0, m1, m2, m3⟩ := box_cells HBX.out
 go_wp2
 clear k0 k1 k2 k3 m0 m1 m2 m3
 go_loopg [5] l.length (fun gg s5 wr => ∃ (i : Nat), s5 = .int .i64 (i : Int) ∧ Aside0 (i ≤ l.length) ∧ Aside0 (l.length - i = gg) ∧ Aside0 (Below w2.heap.size w2 wr))
 case atStart => exact ⟨0, rfl, ⟨by omega⟩, ⟨by omega⟩, ⟨Below.refl _ _⟩⟩
 case round =>
  obtain ⟨i, rfl, HI, HG, HB⟩ := hrel
  have hax := (HB.out.block _ (Array.getElem?_eq_some_iff.1 HAX.out).1).trans HAX.out
  have hbx := (HB.out.block _ (Array.getElem?_eq_some_iff.1 HBX.out).1).trans HBX.out
  have k3 := (box_cells hax).2.2.2
  have m3 := (box_cells hbx).2.2.2
  clear hax hbx
  by_cases ci : i < l.length
  ·have cib : decide ((i : Int) < (l.length : Int)) = true := decide_eq_true (by omega)
   have cib2 : decide (i < l.length) = true := decide_eq_true ci
   have p1 : (0 ≤ (i : Int)) = True := eq_true (by omega)
   have q1 : ((i : Int) < (l.length : Int)) = True := eq_true (by omega)
   have q2 : (i < l.length) = True := eq_true ci
   have b1 : (0 : Int) ≤ (i : Int) := by omega
   have b2 : (i : Int) ≤ 1000000 := by have := HN.out; omega
   obtain ⟨ax, A1, c1, A3, c3, A4, c4, eA, hx0, hx1, hx2, hx3, hx4, lx1, gx1, lx3, gx3, lx4, gx4⟩ := at_T40 (Kd.C_below HRA.out (below_step HBW.out HB.out)) (i : Int) (by omega) (by omega)
   obtain ⟨ay, B1, d1, B3, d3, B4, d4, eB, hy0, hy1, hy2, hy3, hy4, ly1, gy1, ly3, gy3, ly4, gy4⟩ := at_T40 (Kd.C_below HRB.out (below_step HBW.out HB.out)) (i : Int) (by omega) (by omega)
   subst eA
   subst eB
   have HRR : Aside0 (rd_T40 l (i : Int) ∈ l) := ⟨by unfold rd_T40; rw [Int.toNat_natCast, List.getD_eq_getElem?_getD, List.getElem?_eq_getElem ci]; exact List.getElem_mem ci⟩
   generalize rd_T40 l (i : Int) = r at hx0 hx1 hx2 hx3 hx4 lx1 gx1 lx3 gx3 lx4 gx4 hy0 hy1 hy2 hy3 hy4 ly1 gy1 ly3 gy3 ly4 gy4 HRR
   rw [Int.toNat_natCast] at hx0 hx1 hx2 hx3 hx4 hy0 hy1 hy2 hy3 hy4
   have HX := Aside0.mk (And.intro (And.intro lx1 gx1) (And.intro (And.intro lx3 gx3) (And.intro lx4 gx4)))
   have HY := Aside0.mk (And.intro (And.intro ly1 gy1) (And.intro (And.intro ly3 gy3) (And.intro ly4 gy4)))
   have HFR := Aside0.mk (HF.out r HRR.out)
   have CI := Aside0.mk ci
   clear lx1 gx1 lx3 gx3 lx4 gx4 ly1 gy1 ly3 gy3 ly4 gy4 ci
   go_wp2
   refine start_ (n := 14) (S := fun w' => w'.cell? ⟨ga, 3, none⟩ = some (.slice (some ax) l.length c) ∧ w'.cell? ⟨gb, 3, none⟩ = some (.slice (some ay) l.length d) ∧ w'.cell? (ax.add (i * 5)) = some (.int .i64 r.f0) ∧ w'.cell? ⟨(ax.add (i * 5)).block, (ax.add (i * 5)).off + 1, none⟩ = some (.slice A1 r.f1.length c1) ∧ w'.cell? ⟨(ax.add (i * 5)).block, (ax.add (i * 5)).off + 2, none⟩ = some (.int .i64 r.f2) ∧ w'.cell? ⟨(ax.add (i * 5)).block, (ax.add (i * 5)).off + 3, none⟩ = some (.slice A3 r.f3.length c3) ∧ w'.cell? ⟨(ax.add (i * 5)).block, (ax.add (i * 5)).off + 4, none⟩ = some (.slice A4 r.f4.length c4) ∧ w'.cell? (ay.add (i * 5)) = some (.int .i64 r.f0) ∧ w'.cell? ⟨(ay.add (i * 5)).block, (ay.add (i * 5)).off + 1, none⟩ = some (.slice B1 r.f1.length d1) ∧ w'.cell? ⟨(ay.add (i * 5)).block, (ay.add (i * 5)).off + 2, none⟩ = some (.int .i64 r.f2) ∧ w'.cell? ⟨(ay.add (i * 5)).block, (ay.add (i * 5)).off + 3, none⟩ = some (.slice B3 r.f3.length d3) ∧ w'.cell? ⟨(ay.add (i * 5)).block, (ay.add (i * 5)).off + 4, none⟩ = some (.slice B4 r.f4.length d4)) (ds := []) #[false, false, false, false, false, false, false, false, false, false, false, false, false, false] (by kernel_rfl) rfl rfl ⟨k3, m3, hx0, hx1, hx2, hx3, hx4, hy0, hy1, hy2, hy3, hy4⟩ (fun hHeld => ?_); refine with_tabW reg15_6.tab reg15_6.bits (fun HT_ HW_ => ?_)
   have HBD : Aside0 (Below w.heap.size w wr.drew) := ⟨below_drew (below_step HBW.out HB.out)⟩
   have HBD2 : Aside0 (Below w2.heap.size w2 wr.drew) := ⟨below_drew HB.out⟩
   skip
   have HKX := Aside0.mk (And.intro (And.intro (Kd.C_below HX.out.1.2 (below_drew (Below.refl _ _))) (And.intro (Kd.C_below HX.out.2.1.2 (below_drew (Below.refl _ _))) (Kd.C_below HX.out.2.2.2 (below_drew (Below.refl _ _))))) (And.intro (Kd.C_below HY.out.1.2 (below_drew (Below.refl _ _))) (And.intro (Kd.C_below HY.out.2.1.2 (below_drew (Below.refl _ _))) (Kd.C_below HY.out.2.2.2 (below_drew (Below.refl _ _))))))
   generalize wr.drew = W0 at HBD HBD2 HKX hHeld ⊢
   have HSB : Aside0 (∀ W, Below W0.heap.size W0 W → W.cell? ⟨ga, 3, none⟩ = some (.slice (some ax) l.length c) ∧ W.cell? ⟨gb, 3, none⟩ = some (.slice (some ay) l.length d) ∧ W.cell? (ax.add (i * 5)) = some (.int .i64 r.f0) ∧ W.cell? ⟨(ax.add (i * 5)).block, (ax.add (i * 5)).off + 1, none⟩ = some (.slice A1 r.f1.length c1) ∧ W.cell? ⟨(ax.add (i * 5)).block, (ax.add (i * 5)).off + 2, none⟩ = some (.int .i64 r.f2) ∧ W.cell? ⟨(ax.add (i * 5)).block, (ax.add (i * 5)).off + 3, none⟩ = some (.slice A3 r.f3.length c3) ∧ W.cell? ⟨(ax.add (i * 5)).block, (ax.add (i * 5)).off + 4, none⟩ = some (.slice A4 r.f4.length c4) ∧ W.cell? (ay.add (i * 5)) = some (.int .i64 r.f0) ∧ W.cell? ⟨(ay.add (i * 5)).block, (ay.add (i * 5)).off + 1, none⟩ = some (.slice B1 r.f1.length d1) ∧ W.cell? ⟨(ay.add (i * 5)).block, (ay.add (i * 5)).off + 2, none⟩ = some (.int .i64 r.f2) ∧ W.cell? ⟨(ay.add (i * 5)).block, (ay.add (i * 5)).off + 3, none⟩ = some (.slice B3 r.f3.length d3) ∧ W.cell? ⟨(ay.add (i * 5)).block, (ay.add (i * 5)).off + 4, none⟩ = some (.slice B4 r.f4.length d4)) := ⟨fun W hb => ⟨pw_cell_below hb hHeld.1, pw_cell_below hb hHeld.2.1, pw_cell_below hb hHeld.2.2.1, pw_cell_below hb hHeld.2.2.2.1, pw_cell_below hb hHeld.2.2.2.2.1, pw_cell_below hb hHeld.2.2.2.2.2.1, pw_cell_below hb hHeld.2.2.2.2.2.2.1, pw_cell_below hb hHeld.2.2.2.2.2.2.2.1, pw_cell_below hb hHeld.2.2.2.2.2.2.2.2.1, pw_cell_below hb hHeld.2.2.2.2.2.2.2.2.2.1, pw_cell_below hb hHeld.2.2.2.2.2.2.2.2.2.2.1, pw_cell_below hb hHeld.2.2.2.2.2.2.2.2.2.2.2⟩⟩
   clear k3 m3 hx0 hx1 hx2 hx3 hx4 hy0 hy1 hy2 hy3 hy4
   refine pure_ (i := 0) (N := some 43) (v := ?_) (a' := ?_) #[true, false, false, false, false, false, false, false, false, false, false, false, false, false] rfl rfl (any_of HT_.out (by kernel_rfl)) (fun _ _ _ h => h) (Or.inl ⟨by rfl, ?_⟩) ?_ ?_
   rotate_left
   ·intro w'
    go_simp
    with_reducible rfl
   rotate_left
   ·simp only [Act.put, List.setIfInBounds_toArray, List.set_cons_zero, List.set_cons_succ, i64_w, i32_w]
    rfl
   refine take_ (i := 1) (N := some 44) (v := ?_) (a' := ?_) #[true, true, false, false, false, false, false, false, false, false, false, false, false, false] rfl rfl (take_ofW HT_.out HW_.out (by kernel_rfl)) (fun _ _ _ h => h) (Or.inl ⟨by rfl, ?_⟩) hHeld ?_ ?_
   rotate_left
   ·rintro w' ⟨s0, s1, s2, s3, s4, s5, s6, s7, s8, s9, s10, s11⟩
    go_simp
    with_reducible rfl
   rotate_left
   ·simp only [Act.put, List.setIfInBounds_toArray, List.set_cons_zero, List.set_cons_succ, i64_w, i32_w]
    rfl
   refine pure_ (i := 2) (N := some 45) (v := ?_) (a' := ?_) #[true, true, true, false, false, false, false, false, false, false, false, false, false, false] rfl rfl (any_of HT_.out (by kernel_rfl)) (fun _ _ _ h => h) (Or.inl ⟨by rfl, ?_⟩) ?_ ?_
   rotate_left
   ·intro w'
    go_simp
    with_reducible rfl
   rotate_left
   ·simp only [Act.put, List.setIfInBounds_toArray, List.set_cons_zero, List.set_cons_succ, i64_w, i32_w]
    rfl
   refine pure_ (i := 3) (N := some 46) (v := ?_) (a' := ?_) #[true, true, true, true, false, false, false, false, false, false, false, false, false, false] rfl rfl (any_of HT_.out (by kernel_rfl)) (fun _ _ _ h => h) (Or.inl ⟨by rfl, ?_⟩) ?_ ?_
   rotate_left
   ·intro w'
    go_simp
    with_reducible rfl
   rotate_left
   ·simp only [Act.put, List.setIfInBounds_toArray, List.set_cons_zero, List.set_cons_succ, i64_w, i32_w]
    rfl
   refine take_ (i := 4) (N := some 47) (v := ?_) (a' := ?_) #[true, true, true, true, true, false, false, false, false, false, false, false, false, false] rfl rfl (take_ofW HT_.out HW_.out (by kernel_rfl)) (fun _ _ _ h => h) (Or.inl ⟨by rfl, ?_⟩) hHeld ?_ ?_
   rotate_left
   ·rintro w' ⟨s0, s1, s2, s3, s4, s5, s6, s7, s8, s9, s10, s11⟩
    go_simp
    with_reducible rfl
   rotate_left
   ·simp only [Act.put, List.setIfInBounds_toArray, List.set_cons_zero, List.set_cons_succ, i64_w, i32_w]
    rfl
   refine pure_ (i := 5) (N := some 48) (v := ?_) (a' := ?_) #[true, true, true, true, true, true, false, false, false, false, false, false, false, false] rfl rfl (any_of HT_.out (by kernel_rfl)) (fun _ _ _ h => h) (Or.inl ⟨by rfl, ?_⟩) ?_ ?_
   rotate_left
   ·intro w'
    go_simp
    with_reducible rfl
   rotate_left
   ·simp only [Act.put, List.setIfInBounds_toArray, List.set_cons_zero, List.set_cons_succ, i64_w, i32_w]
    rfl
   refine take_ (i := 6) (N := some 49) (v := ?_) (a' := ?_) #[true, true, true, true, true, true, true, false, false, false, false, false, false, false] rfl rfl (take_ofW HT_.out HW_.out (by kernel_rfl)) (fun _ _ _ h => h) (Or.inl ⟨by rfl, ?_⟩) hHeld ?_ ?_
   rotate_left
   ·rintro w' ⟨s0, s1, s2, s3, s4, s5, s6, s7, s8, s9, s10, s11⟩
    go_simp
    with_reducible rfl
   rotate_left
   ·simp only [Act.put, List.setIfInBounds_toArray, List.set_cons_zero, List.set_cons_succ, i64_w, i32_w]
    rfl
   refine pure_ (i := 7) (N := some 50) (v := ?_) (a' := ?_) #[true, true, true, true, true, true, true, true, false, false, false, false, false, false] rfl rfl (any_of HT_.out (by kernel_rfl)) (fun _ _ _ h => h) (Or.inl ⟨by rfl, ?_⟩) ?_ ?_
   rotate_left
   ·intro w'
    go_simp
    with_reducible rfl
   rotate_left
   ·simp only [Act.put, List.setIfInBounds_toArray, List.set_cons_zero, List.set_cons_succ, i64_w, i32_w]
    rfl
   refine pure_ (i := 8) (N := some 51) (v := ?_) (a' := ?_) #[true, true, true, true, true, true, true, true, true, false, false, false, false, false] rfl rfl (any_of HT_.out (by kernel_rfl)) (fun _ _ _ h => h) (Or.inl ⟨by rfl, ?_⟩) ?_ ?_
   rotate_left
   ·intro w'
    go_simp
    with_reducible rfl
   rotate_left
   ·simp only [Act.put, List.setIfInBounds_toArray, List.set_cons_zero, List.set_cons_succ, i64_w, i32_w]
    rfl
   refine take_ (i := 9) (N := some 52) (v := ?_) (a' := ?_) #[true, true, true, true, true, true, true, true, true, true, false, false, false, false] rfl rfl (take_ofW HT_.out HW_.out (by kernel_rfl)) (fun _ _ _ h => h) (Or.inl ⟨by rfl, ?_⟩) hHeld ?_ ?_
   rotate_left
   ·rintro w' ⟨s0, s1, s2, s3, s4, s5, s6, s7, s8, s9, s10, s11⟩
    go_simp
    with_reducible rfl
   rotate_left
   ·simp only [Act.put, List.setIfInBounds_toArray, List.set_cons_zero, List.set_cons_succ, i64_w, i32_w]
    rfl
   refine join_ (σ := Nat × Nat) 0 #[true, true, true, true, true, true, true, true, true, true, true, true, true, true] (fun s_ => [(6, .pointer (some ⟨s_.1, 0, none⟩)), (7, .pointer (some ⟨s_.2, 0, none⟩))]) (fun s_ w' => PairAt W0 w' s_.1 s_.2 r A1 A3 A4 B1 B3 B4 c1 c3 c4 d1 d3 d4) ?_ ?_
   rotate_left
   ·intro hCont
    have HCont := Aside0.mk hCont
    clear hCont
    refine two_ (i := 10) (j := 11) (Ni := some 6) (Nj := some 7) #[true, true, true, true, true, true, true, true, true, true, true, false, false, false] #[true, true, true, true, true, true, true, true, true, true, false, true, false, false] rfl rfl rfl rfl (two_of HT_.out (by kernel_rfl)) (by decide) (by decide) (fun K hK => ?_) (fun K hK => ?_)
    ·skip
     refine box_step ?hgqreg1561 (N := 6) ?hdqreg1561 (cs := #[.int .i64 0, .slice none 0 0, .int .i64 0, .slice none 0 0, .slice none 0 0]) (t := 40) ?hrqreg1561 ?_; (case hdqreg1561 => rfl); (case hgqreg1561 => rfl); (case hrqreg1561 => first | (go_simp; done) | (go_simp; rfl))
     intro g6 hg6 X1 hbox hb
     have HE_g6 := Aside0.mk hg6
     have HX_g6 := Aside0.mk hbox
     have HBK_X1 := Aside0.mk hb
     clear hg6 hbox hb
     refine hK.out _ _ (HSB.out _ HBK_X1.out) (fun hHeld => ?_)
     clear hK K
     refine norm_ (a' := ?_) ?_ ?_
     rotate_left
     ·show Act.put _ (some 6) _ = _
      simp only [Act.put, List.setIfInBounds_toArray, List.set_cons_zero, List.set_cons_succ, i64_w, i32_w]
      rfl
     refine one_ (i := 11) (N := some 7) #[true, true, true, true, true, true, true, true, true, true, true, true, false, false] rfl rfl (one_of HT_.out (by kernel_rfl)) (by decide) (fun K hK => ?_)
     refine box_step ?hgqreg1562 (N := 7) ?hdqreg1562 (cs := #[.int .i64 0, .slice none 0 0, .int .i64 0, .slice none 0 0, .slice none 0 0]) (t := 40) ?hrqreg1562 ?_; (case hdqreg1562 => rfl); (case hgqreg1562 => rfl); (case hrqreg1562 => first | (go_simp; done) | (go_simp; rfl))
     intro g7 hg7 X2 hbox hb
     have HE_g7 := Aside0.mk hg7
     have HX_g7 := Aside0.mk hbox
     have HBK_X2 := Aside0.mk (below_step HBK_X1.out hb)
     have HX6b := Aside0.mk ((hb.block _ (Array.getElem?_eq_some_iff.1 HX_g6.out).1).trans HX_g6.out)
     have HNE : Aside0 (g6 < g7) := ⟨by rw [hg7]; exact (Array.getElem?_eq_some_iff.1 HX_g6.out).1⟩
     clear hg7 hbox hb
     refine hK.out _ _ (HSB.out _ HBK_X2.out) (fun hHeld => ?_)
     clear hK K
     refine norm_ (a' := ?_) ?_ ?_
     rotate_left
     ·show Act.put _ (some 7) _ = _
      simp only [Act.put, List.setIfInBounds_toArray, List.set_cons_zero, List.set_cons_succ, i64_w, i32_w]
      rfl
     refine one_ (i := 12) (N := none) #[true, true, true, true, true, true, true, true, true, true, true, true, true, false] rfl rfl (one_of HT_.out (by kernel_rfl)) (by decide) (fun K hK => ?_)
     obtain ⟨y0, y1, y2, y3, y4, f0', f1', f2', f3', f4'⟩ := five_cells HX6b.out
     have HG5 : Aside0 (W0.heap.size ≤ g6) := ⟨by rw [HE_g6.out]; exact Nat.le_refl _⟩
     obtain ⟨X3, hX3⟩ : ∃ W, ((((X2.setCell ⟨g6, 0, none⟩ (.int .i64 r.f0)).setCell ⟨g6, 1, none⟩ (.slice A1 r.f1.length c1)).setCell ⟨g6, 2, none⟩ (.int .i64 r.f2)).setCell ⟨g6, 3, none⟩ (.slice A3 r.f3.length c3)).setCell ⟨g6, 4, none⟩ (.slice A4 r.f4.length c4) = W := ⟨_, rfl⟩
     have HS_g6 : Aside0 (X3.heap[g6]? = some (.cells #[.int .i64 r.f0, .slice A1 r.f1.length c1, .int .i64 r.f2, .slice A3 r.f3.length c3, .slice A4 r.f4.length c4] 40 (0, 0))) := ⟨by rw [← hX3]; exact set5_get HX6b.out _ _ _ _ _⟩
     have HBK_X3 : Aside0 (Below W0.heap.size W0 X3) := ⟨by rw [← hX3]; exact set5_below HBK_X2.out HG5.out _ _ _ _ _⟩
     have HO_g7 : Aside0 (X3.heap[g7]? = some (.cells #[.int .i64 0, .slice none 0 0, .int .i64 0, .slice none 0 0, .slice none 0 0] 40 (0, 0))) := ⟨by rw [← hX3]; exact (set5_other (Nat.ne_of_gt HNE.out) _ _ _ _ _).trans HX_g7.out⟩
     have HZ_X3 : Aside0 (X3.heap.size = X2.heap.size) := ⟨by rw [← hX3]; exact set5_size _ _ _ _ _⟩
     have HQ_X3 := Aside0.mk hX3
     clear hX3
     refine skip_ (w1 := ?_) (by rfl) rfl ?_ ?_
     rotate_left
     ·go_simp
      rfl
     refine hK.out _ _ (by rw [HQ_X3.out]; exact HSB.out _ HBK_X3.out) (fun hHeld => ?_)
     clear hK K
     rw [HQ_X3.out] at hHeld ⊢
     clear y0 y1 y2 y3 y4 f0' f1' f2' f3' f4' HG5
     refine one_ (i := 13) (N := none) #[true, true, true, true, true, true, true, true, true, true, true, true, true, true] rfl rfl (one_of HT_.out (by kernel_rfl)) (by decide) (fun K hK => ?_)
     obtain ⟨y0, y1, y2, y3, y4, f0', f1', f2', f3', f4'⟩ := five_cells HO_g7.out
     have HG5 : Aside0 (W0.heap.size ≤ g7) := ⟨Nat.le_of_lt (Nat.lt_of_le_of_lt (Nat.le_of_eq HE_g6.out.symm) HNE.out)⟩
     obtain ⟨X4, hX4⟩ : ∃ W, ((((X3.setCell ⟨g7, 0, none⟩ (.int .i64 r.f0)).setCell ⟨g7, 1, none⟩ (.slice B1 r.f1.length d1)).setCell ⟨g7, 2, none⟩ (.int .i64 r.f2)).setCell ⟨g7, 3, none⟩ (.slice B3 r.f3.length d3)).setCell ⟨g7, 4, none⟩ (.slice B4 r.f4.length d4) = W := ⟨_, rfl⟩
     have HS_g7 : Aside0 (X4.heap[g7]? = some (.cells #[.int .i64 r.f0, .slice B1 r.f1.length d1, .int .i64 r.f2, .slice B3 r.f3.length d3, .slice B4 r.f4.length d4] 40 (0, 0))) := ⟨by rw [← hX4]; exact set5_get HO_g7.out _ _ _ _ _⟩
     have HBK_X4 : Aside0 (Below W0.heap.size W0 X4) := ⟨by rw [← hX4]; exact set5_below HBK_X3.out HG5.out _ _ _ _ _⟩
     have HO_g6 : Aside0 (X4.heap[g6]? = some (.cells #[.int .i64 r.f0, .slice A1 r.f1.length c1, .int .i64 r.f2, .slice A3 r.f3.length c3, .slice A4 r.f4.length c4] 40 (0, 0))) := ⟨by rw [← hX4]; exact (set5_other (Nat.ne_of_lt HNE.out) _ _ _ _ _).trans HS_g6.out⟩
     have HZ_X4 : Aside0 (X4.heap.size = X3.heap.size) := ⟨by rw [← hX4]; exact set5_size _ _ _ _ _⟩
     have HQ_X4 := Aside0.mk hX4
     clear hX4
     refine skip_ (w1 := ?_) (by rfl) rfl ?_ ?_
     rotate_left
     ·go_simp
      rfl
     refine hK.out _ _ (by rw [HQ_X4.out]; exact HSB.out _ HBK_X4.out) (fun hHeld => ?_)
     clear hK K
     rw [HQ_X4.out] at hHeld ⊢
     clear y0 y1 y2 y3 y4 f0' f1' f2' f3' f4' HG5
     exact norm_ (by simp only [putAll, Act.put, List.setIfInBounds_toArray, List.set_cons_zero, List.set_cons_succ]) (HCont.out (g6, g7) _ ⟨HO_g6.out, HS_g7.out, HBK_X4.out⟩)
    ·skip
     refine box_step ?hgqreg1563 (N := 7) ?hdqreg1563 (cs := #[.int .i64 0, .slice none 0 0, .int .i64 0, .slice none 0 0, .slice none 0 0]) (t := 40) ?hrqreg1563 ?_; (case hdqreg1563 => rfl); (case hgqreg1563 => rfl); (case hrqreg1563 => first | (go_simp; done) | (go_simp; rfl))
     intro g7 hg7 X1 hbox hb
     have HE_g7 := Aside0.mk hg7
     have HX_g7 := Aside0.mk hbox
     have HBK_X1 := Aside0.mk hb
     clear hg7 hbox hb
     refine hK.out _ _ (HSB.out _ HBK_X1.out) (fun hHeld => ?_)
     clear hK K
     refine norm_ (a' := ?_) ?_ ?_
     rotate_left
     ·show Act.put _ (some 7) _ = _
      simp only [Act.put, List.setIfInBounds_toArray, List.set_cons_zero, List.set_cons_succ, i64_w, i32_w]
      rfl
     refine one_ (i := 10) (N := some 6) #[true, true, true, true, true, true, true, true, true, true, true, true, false, false] rfl rfl (one_of HT_.out (by kernel_rfl)) (by decide) (fun K hK => ?_)
     refine box_step ?hgqreg1564 (N := 6) ?hdqreg1564 (cs := #[.int .i64 0, .slice none 0 0, .int .i64 0, .slice none 0 0, .slice none 0 0]) (t := 40) ?hrqreg1564 ?_; (case hdqreg1564 => rfl); (case hgqreg1564 => rfl); (case hrqreg1564 => first | (go_simp; done) | (go_simp; rfl))
     intro g6 hg6 X2 hbox hb
     have HE_g6 := Aside0.mk hg6
     have HX_g6 := Aside0.mk hbox
     have HBK_X2 := Aside0.mk (below_step HBK_X1.out hb)
     have HX7b := Aside0.mk ((hb.block _ (Array.getElem?_eq_some_iff.1 HX_g7.out).1).trans HX_g7.out)
     have HNE : Aside0 (g7 < g6) := ⟨by rw [hg6]; exact (Array.getElem?_eq_some_iff.1 HX_g7.out).1⟩
     clear hg6 hbox hb
     refine hK.out _ _ (HSB.out _ HBK_X2.out) (fun hHeld => ?_)
     clear hK K
     refine norm_ (a' := ?_) ?_ ?_
     rotate_left
     ·show Act.put _ (some 6) _ = _
      simp only [Act.put, List.setIfInBounds_toArray, List.set_cons_zero, List.set_cons_succ, i64_w, i32_w]
      rfl
     refine one_ (i := 12) (N := none) #[true, true, true, true, true, true, true, true, true, true, true, true, true, false] rfl rfl (one_of HT_.out (by kernel_rfl)) (by decide) (fun K hK => ?_)
     obtain ⟨y0, y1, y2, y3, y4, f0', f1', f2', f3', f4'⟩ := five_cells HX_g6.out
     have HG5 : Aside0 (W0.heap.size ≤ g6) := ⟨Nat.le_of_lt (Nat.lt_of_le_of_lt (Nat.le_of_eq HE_g7.out.symm) HNE.out)⟩
     obtain ⟨X3, hX3⟩ : ∃ W, ((((X2.setCell ⟨g6, 0, none⟩ (.int .i64 r.f0)).setCell ⟨g6, 1, none⟩ (.slice A1 r.f1.length c1)).setCell ⟨g6, 2, none⟩ (.int .i64 r.f2)).setCell ⟨g6, 3, none⟩ (.slice A3 r.f3.length c3)).setCell ⟨g6, 4, none⟩ (.slice A4 r.f4.length c4) = W := ⟨_, rfl⟩
     have HS_g6 : Aside0 (X3.heap[g6]? = some (.cells #[.int .i64 r.f0, .slice A1 r.f1.length c1, .int .i64 r.f2, .slice A3 r.f3.length c3, .slice A4 r.f4.length c4] 40 (0, 0))) := ⟨by rw [← hX3]; exact set5_get HX_g6.out _ _ _ _ _⟩
     have HBK_X3 : Aside0 (Below W0.heap.size W0 X3) := ⟨by rw [← hX3]; exact set5_below HBK_X2.out HG5.out _ _ _ _ _⟩
     have HO_g7 : Aside0 (X3.heap[g7]? = some (.cells #[.int .i64 0, .slice none 0 0, .int .i64 0, .slice none 0 0, .slice none 0 0] 40 (0, 0))) := ⟨by rw [← hX3]; exact (set5_other (Nat.ne_of_lt HNE.out) _ _ _ _ _).trans HX7b.out⟩
     have HZ_X3 : Aside0 (X3.heap.size = X2.heap.size) := ⟨by rw [← hX3]; exact set5_size _ _ _ _ _⟩
     have HQ_X3 := Aside0.mk hX3
     clear hX3
     refine skip_ (w1 := ?_) (by rfl) rfl ?_ ?_
     rotate_left
     ·go_simp
      rfl
     refine hK.out _ _ (by rw [HQ_X3.out]; exact HSB.out _ HBK_X3.out) (fun hHeld => ?_)
     clear hK K
     rw [HQ_X3.out] at hHeld ⊢
     clear y0 y1 y2 y3 y4 f0' f1' f2' f3' f4' HG5
     refine one_ (i := 13) (N := none) #[true, true, true, true, true, true, true, true, true, true, true, true, true, true] rfl rfl (one_of HT_.out (by kernel_rfl)) (by decide) (fun K hK => ?_)
     obtain ⟨y0, y1, y2, y3, y4, f0', f1', f2', f3', f4'⟩ := five_cells HO_g7.out
     have HG5 : Aside0 (W0.heap.size ≤ g7) := ⟨by rw [HE_g7.out]; exact Nat.le_refl _⟩
     obtain ⟨X4, hX4⟩ : ∃ W, ((((X3.setCell ⟨g7, 0, none⟩ (.int .i64 r.f0)).setCell ⟨g7, 1, none⟩ (.slice B1 r.f1.length d1)).setCell ⟨g7, 2, none⟩ (.int .i64 r.f2)).setCell ⟨g7, 3, none⟩ (.slice B3 r.f3.length d3)).setCell ⟨g7, 4, none⟩ (.slice B4 r.f4.length d4) = W := ⟨_, rfl⟩
     have HS_g7 : Aside0 (X4.heap[g7]? = some (.cells #[.int .i64 r.f0, .slice B1 r.f1.length d1, .int .i64 r.f2, .slice B3 r.f3.length d3, .slice B4 r.f4.length d4] 40 (0, 0))) := ⟨by rw [← hX4]; exact set5_get HO_g7.out _ _ _ _ _⟩
     have HBK_X4 : Aside0 (Below W0.heap.size W0 X4) := ⟨by rw [← hX4]; exact set5_below HBK_X3.out HG5.out _ _ _ _ _⟩
     have HO_g6 : Aside0 (X4.heap[g6]? = some (.cells #[.int .i64 r.f0, .slice A1 r.f1.length c1, .int .i64 r.f2, .slice A3 r.f3.length c3, .slice A4 r.f4.length c4] 40 (0, 0))) := ⟨by rw [← hX4]; exact (set5_other (Nat.ne_of_gt HNE.out) _ _ _ _ _).trans HS_g6.out⟩
     have HZ_X4 : Aside0 (X4.heap.size = X3.heap.size) := ⟨by rw [← hX4]; exact set5_size _ _ _ _ _⟩
     have HQ_X4 := Aside0.mk hX4
     clear hX4
     refine skip_ (w1 := ?_) (by rfl) rfl ?_ ?_
     rotate_left
     ·go_simp
      rfl
     refine hK.out _ _ (by rw [HQ_X4.out]; exact HSB.out _ HBK_X4.out) (fun hHeld => ?_)
     clear hK K
     rw [HQ_X4.out] at hHeld ⊢
     clear y0 y1 y2 y3 y4 f0' f1' f2' f3' f4' HG5
     exact norm_ (by simp only [putAll, Act.put, List.setIfInBounds_toArray, List.set_cons_zero, List.set_cons_succ]) (HCont.out (g6, g7) _ ⟨HO_g6.out, HS_g7.out, HBK_X4.out⟩)
   rintro ⟨g6, g7⟩ W6 hPA
   refine norm_ (a' := ?_) ?_ ?_
   rotate_left
   ·simp only [putAll, Act.put, List.setIfInBounds_toArray, List.set_cons_zero, List.set_cons_succ]
    rfl
   have HPA := Aside0.mk hPA
   clear hPA
   refine done_ (done_of HT_.out (by kernel_rfl)) ?_
   obtain ⟨HX6, HX7, HBK⟩ : Aside0 _ ∧ Aside0 _ ∧ Aside0 _ := ⟨⟨HPA.out.1⟩, ⟨HPA.out.2.1⟩, ⟨HPA.out.2.2⟩⟩
   obtain ⟨x0, x1, x2, x3, x4, _⟩ := five_cells HX6.out
   obtain ⟨y0, y1, y2, y3, y4, _⟩ := five_cells HX7.out
   have HBK2 := Aside0.mk (below_step HBD.out HBK.out)
   clear hHeld HSB
   go_wp2_with (first
    | (go_at_call 20; ((with_reducible refine (equal_same A1 B1 c1 d1 r.f1 _ (Kd.C_below HKX.out.1.1 (by repeat (with_reducible first | exact HBK.out | apply pw_below_drewN))) (Kd.C_below HKX.out.2.1 (by repeat (with_reducible first | exact HBK.out | apply pw_below_drewN))) HX.out.1.1 HY.out.1.1 HFR.out.1).mono ?_); rintro e w7 ⟨rfl, nd, rfl⟩))
    | (go_at_call 20; ((with_reducible refine (equal_same A3 B3 c3 d3 r.f3 _ (Kd.C_below HKX.out.1.2.1 (by repeat (with_reducible first | exact HBK.out | apply pw_below_drewN))) (Kd.C_below HKX.out.2.2.1 (by repeat (with_reducible first | exact HBK.out | apply pw_below_drewN))) HX.out.2.1.1 HY.out.2.1.1 HFR.out.2.1).mono ?_); rintro e w7 ⟨rfl, nd, rfl⟩))
    | (go_at_call 20; ((with_reducible refine (equal_same A4 B4 c4 d4 r.f4 _ (Kd.C_below HKX.out.1.2.2 (by repeat (with_reducible first | exact HBK.out | apply pw_below_drewN))) (Kd.C_below HKX.out.2.2.2 (by repeat (with_reducible first | exact HBK.out | apply pw_below_drewN))) HX.out.2.2.1 HY.out.2.2.1 HFR.out.2.2).mono ?_); rintro e w7 ⟨rfl, nd, rfl⟩)))
   go_roundg (l.length - (i + 1))
   case measure => have := HG.out; have := CI.out; omega
   case rel =>
    have := CI.out
    exact ⟨i + 1, by simp, ⟨by omega⟩, ⟨by omega⟩, ⟨below_step HBD2.out (by repeat (with_reducible first | exact HBK.out | apply pw_below_drewN))⟩⟩
  ·have cib : decide ((i : Int) < (l.length : Int)) = false := decide_eq_false (by omega)
   have cib2 : decide (i < l.length) = false := decide_eq_false ci
   clear ci
   go_wp2
   refine bodyPost_ret (v := .bool true) (by simp [results, Tryd.results15, go_sem]) rfl ?_
   exact ⟨rfl, below_step HBW.out HB.out⟩
end Go.Proofs.YtfoodfhhdbaieaaDoor.Giv
