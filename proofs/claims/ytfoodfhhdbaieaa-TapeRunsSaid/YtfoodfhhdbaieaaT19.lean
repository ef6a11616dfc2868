-- CUT by a program of this session: what the claim does not use is left out
import Derived.Test.YtfoodfhhdbaieaaT18
namespace Go.Proofs.Ytfoodfhhdbaieaa.Giv
set_option linter.unusedSimpArgs false
set_option linter.unusedVariables false
open Go.RowKit Go.Shelf Go.Proofs.YtfoodfhhdbaieaaW.PrintWords Go.Proofs.YtfoodfhhdbaieaaW.PrintLast Go.Proofs.YtfoodfhhdbaieaaW.PrintMore
open Go.Proofs.Ytfoodfhhdbaieaa.Ka (S54 k54 z54 rd_T54 at_T54 k54_open k54_mk rd_L1 at_L1 info3 info25 info54)

def maxI (x y : Int) : Int := if x < y then y else x
def maxTo (st at_ : List Int) : Nat → List Int
  | 0 => st
  | k + 1 => (maxTo st at_ k).set k (maxI (rd (maxTo st at_ k) k) (rd at_ k))
theorem maxTo_len (st at_ : List Int) : ∀ k, (maxTo st at_ k).length = st.length
  | 0 => rfl
  | k + 1 => by simp only [maxTo, List.length_set]; exact maxTo_len st at_ k
def FarAt (fv g : Nat) (W : World) (st : List Int) : Prop := st.length = 3 ∧ W.heap[fv]? = some (.cells #[.slice (some ⟨g, 0, none⟩) 3 3] 25 (0, 0)) ∧ W.heap[g]? = some (.cells (st.map (Value.int .i64)).toArray 3 (0, 0))
theorem far_kept {fv g : Nat} {W W' : World} {st : List Int} (h : FarAt fv g W st) (h1 : W'.heap[fv]? = W.heap[fv]?) (h2 : W'.heap[g]? = W.heap[g]?) : FarAt fv g W' st := ⟨h.1, h1.trans h.2.1, h2.trans h.2.2⟩
theorem far_cells {fv g : Nat} {W : World} {st : List Int} (h : FarAt fv g W st) : W.cell? ⟨fv, 0, none⟩ = some (.slice (some ⟨g, 0, none⟩) 3 3) ∧ ∀ i : Nat, i < 3 → W.cell? ⟨g, i, none⟩ = some (.int .i64 (rd st i)) ∧ W.frozen? ⟨g, i, none⟩ = false := by
  refine ⟨by simp [World.cell?, h.2.1], fun i hi => ⟨?_, by simp [World.frozen?, h.2.2]⟩⟩
  have : i < st.length := by rw [h.1]; exact hi
  simp [World.cell?, h.2.2, rd, List.getD_eq_getElem?_getD, this]
theorem far_set {fv g : Nat} {W : World} {st : List Int} (h : FarAt fv g W st) (hne : fv ≠ g) {i : Nat} (hi : i < 3) (x : Int) : FarAt fv g (W.setCell ⟨g, i, none⟩ (.int .i64 x)) (st.set i x) := by
  refine ⟨by simpa using h.1, (heap_setCell_other W ⟨g, i, none⟩ fv _ hne).trans h.2.1, ?_⟩
  refine (heap_setCell_same W g i _ 3 _ h.2.2).trans ?_
  simp [List.map_set]
def SmallL (st : List Int) : Prop := ∀ i : Nat, 0 ≤ rd st i ∧ rd st i ≤ 100000
theorem maxTo_bd {st at_ : List Int} (h1 : SmallL st) (h2 : SmallL at_) : ∀ k, SmallL (maxTo st at_ k)
  | 0 => h1
  | k + 1 => fun i => by
    have ih := maxTo_bd h1 h2 k
    simp only [maxTo]
    rw [rd_set]
    split
    · have := ih k
      have := h2 k
      unfold maxI
      split <;> omega
    · exact ih i
def reg48.T : Bool × List (List Nat × List Nat) := (true, [([], []), ([], []), ([], []), ([], []), ([2, 3], [2, 3]), ([4], [4]), ([], []), ([5, 6], [5, 6]), ([0, 1, 0, 1, 2, 3, 4, 5, 6, 7], [0, 1]), ([8, 7, 0, 1, 2, 3, 4, 5, 6, 7], [7, 8])])
def reg48.B : List Nat := [0, 0, 0, 0, 12, 28, 0, 124, 255, 511]
theorem reg48.tab : rtab .any (opsOf Try.f48 4) = reg48.T := by kernel_rfl
theorem reg48.bits : waitsOk reg48.T.2 reg48.B = true := by kernel_rfl
set_option maxHeartbeats 1000000 in
set_option maxRecDepth 100000 in
theorem see48 (n fv gf E : Nat) (hf : fv < E) (hg : gf < E) (hne : fv ≠ gf) (hn : n ≤ 3) : SeeOk (σ := List Int) 48 #[.pointer (some ⟨fv, 0, none⟩)] (fun W st => FarAt fv gf W st ∧ SmallL st) (fun st at_ => maxTo st at_ at_.length) (some gf) n E where
  eg := enters_of Try.func48 (by kernel_rfl) rfl
  keep W W' st h hk := ⟨far_kept h.1 (hk fv hf) (hk gf hg), h.2⟩
  call W st s A1 c1 at_ A2 n2 c2 hJ hE hl hb hC := by
    show Calls Try.prog 48 #[.agg #[.int .i64 s, .slice A1 at_.length c1, .slice A2 n2 c2], .pointer (some ⟨fv, 0, none⟩)] W _
    obtain ⟨W1, hW1⟩ : ∃ W1, W.alloc (Obj.cells #[.int .i64 s, .slice A1 at_.length c1, .slice A2 n2 c2] 32) = W1 := ⟨_, rfl⟩
    have hb1 : Below W.heap.size W W1 := by rw [← hW1]; exact (Below.refl _ _).alloc (Nat.le_refl _) _
    have z1 : W.heap.size < W1.heap.size := by rw [← hW1]; simp
    have k1 : W1.cell? ⟨W.heap.size, 1, none⟩ = some (.slice A1 at_.length c1) := by subst hW1; go_simp
    have HF : Aside0 (FarAt fv gf W1 st) := ⟨far_kept hJ.1 (hb1.block fv (by omega)) (hb1.block gf (by omega))⟩
    have HC := Aside0.mk hC
    have HW1 := Aside0.mk hW1
    have HB1 := Aside0.mk hb1
    have HL : Aside0 (at_.length ≤ 3) := ⟨by omega⟩
    have HNE := Aside0.mk hne
    have HE := Aside0.mk hE
    have HFV := Aside0.mk hf
    have HGV := Aside0.mk hg
    have HBD := Aside0.mk (maxTo_bd hJ.2 hb at_.length)
    clear hJ hb hC hW1 hb1 hl hne hE hf hg
    go_enter Try.func48, Try.ntmps48
    go_wp2_with fail
    rw [HW1.out]
    go_wp2
    go_loopg [8] at_.length (fun gg s8 wr => ∃ i : Int, s8 = .int .i64 i ∧ Aside0 (0 ≤ i) ∧ Aside0 ((at_.length : Int) - i = gg) ∧ Aside0 (FarAt fv gf wr (maxTo st at_ i.toNat)) ∧ Aside0 (W.grownBy wr (some gf)))
    case atStart => exact ⟨0, rfl, ⟨by omega⟩, ⟨by omega⟩, HF, ⟨grown_of_below HB1.out _⟩⟩
    case round =>
      obtain ⟨i, rfl, HI, HG, HFA, HGR⟩ := hrel
      have i0 := HI.out
      by_cases cl : i < (at_.length : Int)
      · have clb : decide (i < (at_.length : Int)) = true := decide_eq_true cl
        have i3 : i < 3 := by have := HL.out; omega
        have hCr : Kd.C (Kd.int .i64) wr A1 at_.length at_ := HC.out wr (fun k hk h2 => HGR.out.block k h2 (by have := HGV.out; intro e; injection e with e; omega))
        obtain ⟨ad, e1, hx⟩ := Kd.at_int hCr i i0 cl
        subst e1
        obtain ⟨f1, f2⟩ := far_cells HFA.out
        obtain ⟨f3, f4⟩ := f2 i.toNat (by omega)
        rw [show ((i.toNat : Nat) : Int) = i by omega] at f3
        obtain ⟨y, hy⟩ : ∃ y, rd at_ i = y := ⟨_, rfl⟩
        rw [hy] at hx
        obtain ⟨x, hxx⟩ : ∃ x, rd (maxTo st at_ i.toNat) i = x := ⟨_, rfl⟩
        rw [hxx] at f3
        have HY := Aside0.mk hy
        have HX := Aside0.mk hxx
        have CL := Aside0.mk cl
        clear hCr f2 hy hxx
        go_wp2
        refine start_ (n := 10) (S := fun w' => w'.cell? ⟨fv, 0, none⟩ = some (.slice (some ⟨gf, 0, none⟩) 3 3) ∧ w'.cell? ⟨gf, i.toNat, none⟩ = some (.int .i64 x) ∧ w'.frozen? ⟨gf, i.toNat, none⟩ = false) (ds := [9]) #[false, false, false, false, false, false, false, false, false, false] (by kernel_rfl) rfl rfl ⟨f1, f3, f4⟩ (fun hHeld => ?_); refine with_tabW reg48.tab reg48.bits (fun HT_ HW_ => ?_)
        refine take_ (i := 0) (N := some 13) (v := ?_) (a' := ?_) #[true, false, false, false, false, false, false, false, false, false] rfl rfl (take_ofW HT_.out HW_.out (by kernel_rfl)) (fun _ _ _ h => h) (Or.inl ⟨by rfl, ?_⟩) hHeld ?_ ?_
        rotate_left
        · rintro w' ⟨s1, s2, s3⟩
          go_simp
          with_reducible rfl
        rotate_left
        · simp only [Act.put, List.setIfInBounds_toArray, List.set_cons_zero, List.set_cons_succ, i64_w, i32_w]
          rfl
        refine pure_ (i := 1) (N := some 14) (v := ?_) (a' := ?_) #[true, true, false, false, false, false, false, false, false, false] rfl rfl (any_of HT_.out (by kernel_rfl)) (fun _ _ _ h => h) (Or.inl ⟨by rfl, ?_⟩) ?_ ?_
        rotate_left
        · intro w'
          go_simp
          with_reducible rfl
        rotate_left
        · simp only [Act.put, List.setIfInBounds_toArray, List.set_cons_zero, List.set_cons_succ, i64_w, i32_w]
          rfl
        refine take_ (i := 2) (N := some 15) (v := ?_) (a' := ?_) #[true, true, true, false, false, false, false, false, false, false] rfl rfl (take_ofW HT_.out HW_.out (by kernel_rfl)) (fun _ _ _ h => h) (Or.inl ⟨by rfl, ?_⟩) hHeld ?_ ?_
        rotate_left
        · rintro w' ⟨s1, s2, s3⟩
          go_simp
          with_reducible rfl
        rotate_left
        · simp only [Act.put, List.setIfInBounds_toArray, List.set_cons_zero, List.set_cons_succ, i64_w, i32_w]
          rfl
        refine pure_ (i := 3) (N := some 16) (v := ?_) (a' := ?_) #[true, true, true, true, false, false, false, false, false, false] rfl rfl (any_of HT_.out (by kernel_rfl)) (fun _ _ _ h => h) (Or.inl ⟨by rfl, ?_⟩) ?_ ?_
        rotate_left
        · intro w'
          go_simp
          with_reducible rfl
        rotate_left
        · simp only [Act.put, List.setIfInBounds_toArray, List.set_cons_zero, List.set_cons_succ, i64_w, i32_w]
          rfl
        refine pure_ (i := 4) (N := some 17) (v := ?_) (a' := ?_) #[true, true, true, true, true, false, false, false, false, false] rfl rfl (any_of HT_.out (by kernel_rfl)) (fun _ _ _ h => h) (Or.inl ⟨by rfl, ?_⟩) ?_ ?_
        rotate_left
        · intro w'
          go_simp
          with_reducible rfl
        rotate_left
        · simp only [Act.put, List.setIfInBounds_toArray, List.set_cons_zero, List.set_cons_succ, i64_w, i32_w]
          rfl
        refine take_ (i := 5) (N := some 18) (v := ?_) (a' := ?_) #[true, true, true, true, true, true, false, false, false, false] rfl rfl (take_ofW HT_.out HW_.out (by kernel_rfl)) (fun _ _ _ h => h) (Or.inl ⟨by rfl, ?_⟩) hHeld ?_ ?_
        rotate_left
        · rintro w' ⟨s1, s2, s3⟩
          go_simp
          with_reducible rfl
        rotate_left
        · simp only [Act.put, List.setIfInBounds_toArray, List.set_cons_zero, List.set_cons_succ, i64_w, i32_w]
          rfl
        refine pure_ (i := 6) (N := some 19) (v := ?_) (a' := ?_) #[true, true, true, true, true, true, true, false, false, false] rfl rfl (any_of HT_.out (by kernel_rfl)) (fun _ _ _ h => h) (Or.inl ⟨by rfl, ?_⟩) ?_ ?_
        rotate_left
        · intro w'
          go_simp
          with_reducible rfl
        rotate_left
        · simp only [Act.put, List.setIfInBounds_toArray, List.set_cons_zero, List.set_cons_succ, i64_w, i32_w]
          rfl
        refine pure_ (i := 7) (N := some 20) (v := .int .i64 (maxI x y)) (a' := ?_) #[true, true, true, true, true, true, true, true, false, false] rfl rfl (any_of HT_.out (by kernel_rfl)) (fun _ _ _ h => h) (Or.inl ⟨by rfl, ?_⟩) ?_ ?_
        · intro w'
          go_simp
          unfold maxI
          split <;> omega
        rotate_left
        · simp only [Act.put, List.setIfInBounds_toArray, List.set_cons_zero, List.set_cons_succ, i64_w, i32_w]
          rfl
        refine pure_ (i := 8) (N := some 21) (v := ?_) (a' := ?_) #[true, true, true, true, true, true, true, true, true, false] rfl rfl (any_of HT_.out (by kernel_rfl)) (fun _ _ _ h => h) (Or.inl ⟨by rfl, ?_⟩) ?_ ?_
        rotate_left
        · intro w'
          go_simp
          with_reducible rfl
        rotate_left
        · simp only [Act.put, List.setIfInBounds_toArray, List.set_cons_zero, List.set_cons_succ, i64_w, i32_w]
          rfl
        refine last_ (i := 9) (N := none) #[true, true, true, true, true, true, true, true, true, true] rfl rfl (one_of HT_.out (by kernel_rfl)) (by decide) (fun K hK => ?_)
        obtain ⟨s1, s2, s3⟩ := hHeld
        refine skip_ (w1 := ?_) (by rfl) rfl ?_ ?_
        rotate_left
        · go_simp
          rfl
        refine hK.out _ _ ?_
        clear hK K
        refine done_ (done_of HT_.out (by kernel_rfl)) ?_
        try go_wp2
        go_roundg (at_.length - (i + 1)).toNat
        case measure => have := HG.out; have := CL.out; omega
        case rel =>
          have i1 := CL.out
          have hg1 := HG.out
          have h3' := HL.out
          have i0' := HI.out
          have eN : (i + 1).toNat = i.toNat + 1 := by omega
          refine ⟨i + 1, ?_, ⟨by omega⟩, ⟨by omega⟩, ⟨?_⟩, ⟨?_⟩⟩
          · first | rfl | (rw [show wrap64 (i + 1) = i + 1 by unfold wrap64; omega])
          · rw [eN]
            have := far_set HFA.out HNE.out (i := i.toNat) (by omega) (maxI x y)
            simp only [maxTo]
            rw [show ((i.toNat : Nat) : Int) = i by omega, HX.out, HY.out]
            exact far_kept this rfl rfl
          · exact grown_trans (grown_trans HGR.out (set_grown wr gf i.toNat (.int .i64 (maxI x y)))) (grown_of_below (below_drew (Below.refl _ _)) _)
      · have clb : decide (i < (at_.length : Int)) = false := decide_eq_false cl
        have HEN : Aside0 (i.toNat = at_.length) := ⟨by have := HG.out; omega⟩
        go_wp2
        refine Go.Great.bodyPost_end0 rfl rfl ?_
        have := HFA.out
        rw [HEN.out] at this
        exact ⟨rfl, ⟨this, HBD.out⟩, HGR.out⟩
end Go.Proofs.Ytfoodfhhdbaieaa.Giv
