-- CUT by a program of this session: what the claim does not use is left out
import Derived.Test.YtfoodfhhdbaieaaDoorM36
import Derived.Test.YtfoodfhhdbaieaaDoorM20
namespace Go.Proofs.YtfoodfhhdbaieaaDoor.Giv
set_option maxRecDepth 100000
set_option linter.unusedVariables false
set_option linter.unusedSimpArgs false
open Go.RowKit Go.Shelf Go.Proofs.YtfoodfhhdbaieaaDoorW.PrintWords Go.Proofs.YtfoodfhhdbaieaaDoorW.PrintLast Go.Proofs.YtfoodfhhdbaieaaDoorW.PrintMore
open Go.Proofs.YtfoodfhhdbaieaaDoor.Ka (S40 k40 z40 rd_T40 at_T40 k40_open k40_mk rd_L1 at_L1 info3 info38 info40)
open Go.Proofs.YtfoodfhhdbaieaaDoor.Pure
theorem valid_nn {a0 a1 a2 : Int} {l : List S40} (h : validM a0 a1 a2 l = true) : 0 ≤ a0 ∧ ∀ r ∈ l, Neat r ∧ 0 ≤ r.f0 := by
 have h1 := valid_neat h
 refine ⟨by omega, fun r hr => ⟨h1.2.2 r hr, ?_⟩⟩
 exact valid_from h r hr
def reg13_5.T : Bool × List (List Nat × List Nat) := (true, [([], []), ([0], [0]), ([1], [1]), ([], []), ([3], [3]), ([4], [4]), ([], []), ([6], [6]), ([7], [7]), ([2, 5, 8], [2, 5, 8]), ([], []), ([10, 9, 0, 1, 2, 3, 4, 5, 6, 7, 8, 9, 10], [9, 10])])
def reg13_5.B : List Nat := [0, 1, 3, 0, 8, 24, 0, 64, 192, 511, 0, 2047]
theorem reg13_5.tab : rtab .any (opsOf Tryd.f13 5) = reg13_5.T := by kernel_rfl
theorem reg13_5.bits : waitsOk reg13_5.T.2 reg13_5.B = true := by kernel_rfl
def reg13_15.T : Bool × List (List Nat × List Nat) := (true, [([], []), ([0], [0]), ([], []), ([2], [2]), ([3], [3]), ([], []), ([], []), ([6], [6]), ([5, 7], [5, 7]), ([], []), ([], []), ([10], [10]), ([9, 11], [9, 11]), ([12], [12]), ([], []), ([], []), ([15], [15]), ([], []), ([17], [17]), ([18], [18]), ([14, 16, 19], [14, 16, 19]), ([], []), ([], []), ([22], [22]), ([23], [23]), ([21, 24], [21, 24]), ([4, 8, 13, 20, 25], [4, 8, 13, 20, 25]), ([26], [26]), ([1, 27], [1, 27]), ([0, 1, 2, 3, 4, 5, 6, 7, 8, 9, 10, 11, 12, 13, 14, 15, 16, 17, 18, 19, 20, 21, 22, 23, 24, 25, 26, 27, 28], []), ([29, 28, 28, 0, 1, 2, 3, 4, 5, 6, 7, 8, 9, 10, 11, 12, 13, 14, 15, 16, 17, 18, 19, 20, 21, 22, 23, 24, 25, 26, 27, 28], [28, 29])])
def reg13_15.B : List Nat := [0, 1, 0, 4, 12, 0, 0, 64, 224, 0, 0, 1024, 3584, 7680, 0, 0, 32768, 0, 131072, 393216, 1032192, 0, 0, 4194304, 12582912, 31457280, 67108860, 134217724, 268435455, 536870911, 1073741823]
theorem reg13_15.tab : rtab .any (opsOf Tryd.f13 15) = reg13_15.T := by kernel_rfl
theorem reg13_15.bits : waitsOk reg13_15.T.2 reg13_15.B = true := by kernel_rfl
set_option maxHeartbeats 16000000 in
theorem refParse_calls (s : ByteArray) (w : World) (hsz : s.size ≤ 4000) :
  Calls Tryd.prog 13 #[.string s] w (ParseOut w (parseP numsQ (splR s semi 0 0) s) (.bool false) (.bool true)) := by
 obtain ⟨W1, hW1⟩ : ∃ W1, w.alloc (.cells #[.int .i64 0, .int .i64 0, .int .i64 0, .slice none 0 0] 24) = W1 := ⟨_, rfl⟩
 have HB1 : Aside0 (Below w.heap.size w W1) := ⟨by rw [← hW1]; exact below_alloc (Below.refl _ _) _⟩
 have hbx0 : W1.heap[w.heap.size]? = some (.cells #[.int .i64 0, .int .i64 0, .int .i64 0, .slice none 0 0] 24 (0, 0)) := by rw [← hW1]; exact box_at _ _
 have hz1 : W1.heap.size = w.heap.size + 1 := by rw [← hW1]; simp
 have res0 : ∀ {W}, Below W1.heap.size W1 W → W.heap[w.heap.size]? = some (.cells #[.int .i64 0, .int .i64 0, .int .i64 0, .slice none 0 0] 24 (0, 0)) := fun hb => (hb.block _ (Array.getElem?_eq_some_iff.1 hbx0).1).trans hbx0
 have HW1 := Aside0.mk hW1
 have HZ1 := Aside0.mk hz1
 have HS := Aside0.mk hsz
 have hlen := splR_len2 s semi 0 0 (Nat.zero_le _)
 clear hbx0 hz1 hsz hW1
 obtain ⟨q0, qs, hq⟩ : ∃ q0 qs, splR s semi 0 0 = q0 :: qs := by
  cases hc : splR s semi 0 0 with
  | nil => exact absurd hc (splR_ne _ _ _ _)
  | cons q0 qs => exact ⟨q0, qs, rfl⟩
 have HQC : Aside0 (qs.length ≤ 2000) := ⟨by rw [hq, List.length_cons, show semi.size = 2 from rfl] at hlen; have := HS.out; omega⟩
 have HQL : Aside0 (∀ x ∈ q0 :: qs, x.size ≤ 4000) := ⟨fun x hx => by rw [← hq] at hx; exact Nat.le_trans (splR_size _ _ hx) HS.out⟩
 have HCQ := Aside0.mk hq
 clear hlen
 cases hi : numsQ q0 with
 | none =>
  rw [hq, parseP_head_none hi]
  have HI := Aside0.mk hi
  clear hq hi
  go_enter Tryd.func13, Tryd.ntmps13
  go_wp2_with (first | (go_at_call 26; (rw [HW1.out]; refine (refSplit_calls s W1 (by have := HS.out; omega)).mono ?_; rw [HCQ.out]; rintro e w2 ⟨P, cur, cp, rfl, hP, hcur, hcp, hPb, hb⟩; have HP := Aside0.mk hP; have HCUR := Aside0.mk hcur; have HPB := Aside0.mk hPb; have HBL := Aside0.mk hb; have hp0 := cur_at hP hcur (i := 0) (by simp); clear hP hcur hcp hPb hb)) | (go_at_call 27; (refine (refNumbers_calls q0 _ (by have := HQL.out q0 List.mem_cons_self; omega)).mono ?_; rw [HI.out]; rintro e w3 ⟨v3, rfl, hno, hyes, hb⟩; have HP3 := Aside0.mk ((hb.block _ (Array.getElem?_eq_some_iff.1 HP.out).1).trans HP.out); have HOW := Aside0.mk hyes; have HBM := HBL; have HBL := Aside0.mk (below_step HBL.out hb); obtain ⟨z0, z1, z2, z3, f0, f1, f2, f3⟩ := zero_cells (res0 HBL.out); obtain ⟨Ah, ch, eh⟩ := hno rfl; subst eh; clear hno hyes hb)))
  refine bodyPost_ret (v := .tuple #[zeroM, .bool false]) (by simp [results, Tryd.results13, go_sem, z0, z1, z2, z3, zeroM]) rfl ?_
  exact ⟨below_set (below_set (below_set (below_set (below_step HB1.out HBL.out) (Nat.le_refl _)) (Nat.le_refl _)) (Nat.le_refl _)) (Nat.le_refl _), rfl⟩
 | some h =>
  have HI := Aside0.mk hi
  by_cases h3 : h.length = 3
  ·obtain ⟨x, y, z, rfl⟩ := list3 h3
   have HH3 := Aside0.mk h3
   have HPB3 : Aside0 (¬ (1 ≤ z ∧ z ≤ 3) → parseP numsQ (q0 :: qs) s = none) := ⟨fun hz => parseP_head_bad hi (fun hh => hz hh.2)⟩
   rw [hq]
   clear h3 hq hi
   go_enter Tryd.func13, Tryd.ntmps13
   go_wp2_with (first | (go_at_call 26; (rw [HW1.out]; refine (refSplit_calls s W1 (by have := HS.out; omega)).mono ?_; rw [HCQ.out]; rintro e w2 ⟨P, cur, cp, rfl, hP, hcur, hcp, hPb, hb⟩; have HP := Aside0.mk hP; have HCUR := Aside0.mk hcur; have HPB := Aside0.mk hPb; have HBL := Aside0.mk hb; have hp0 := cur_at hP hcur (i := 0) (by simp); clear hP hcur hcp hPb hb)) | (go_at_call 27; (refine (refNumbers_calls q0 _ (by have := HQL.out q0 List.mem_cons_self; omega)).mono ?_; rw [HI.out]; rintro e w3 ⟨v3, rfl, hno, hyes, hb⟩; have HP3 := Aside0.mk ((hb.block _ (Array.getElem?_eq_some_iff.1 HP.out).1).trans HP.out); have HOW := Aside0.mk hyes; have HBM := HBL; have HBL := Aside0.mk (below_step HBL.out hb); obtain ⟨z0, z1, z2, z3, f0, f1, f2, f3⟩ := zero_cells (res0 HBL.out); obtain ⟨gh, ch, eh, hgh, hrow⟩ := own_row (l := [x, y, z]) (hyes _ rfl) rfl (by simp); subst eh; have HGH := Aside0.mk hgh; have HRH := Aside0.mk hrow; have x0 := hrow.cell (j := 0) (by simp); have x1 := hrow.cell (j := 1) (by simp); have x2 := hrow.cell (j := 2) (by simp); clear hno hyes hb hgh hrow)))
   refine start_ (n := 12) (S := fun w' => w'.cell? ⟨gh, 0, none⟩ = some (.int .i64 x) ∧ w'.cell? ⟨gh, 1, none⟩ = some (.int .i64 y) ∧ w'.cell? ⟨gh, 2, none⟩ = some (.int .i64 z)) (ds := [11]) #[false, false, false, false, false, false, false, false, false, false, false, false] (by kernel_rfl) rfl rfl ⟨x0, x1, x2⟩ (fun hHeld => ?_); refine with_tabW reg13_5.tab reg13_5.bits (fun HT_ HW_ => ?_)
   have HBL0 : Aside0 (Below W1.heap.size W1 w3.drew) := ⟨below_drew HBL.out⟩
   have HP0 : Aside0 (w3.drew.heap[P]? = some (.cells cur 9 (0, 0))) := ⟨HP3.out⟩
   generalize w3.drew = W0 at HBL0 HP0 hHeld ⊢
   clear x0 x1 x2
   refine pure_ (i := 0) (N := some 29) (v := ?_) (a' := ?_) #[true, false, false, false, false, false, false, false, false, false, false, false] rfl rfl (any_of HT_.out (by kernel_rfl)) (fun _ _ _ h => h) (Or.inl ⟨by rfl, ?_⟩) ?_ ?_
   rotate_left
   ·intro w'
    go_simp
    with_reducible rfl
   rotate_left
   ·simp only [Act.put, List.setIfInBounds_toArray, List.set_cons_zero, List.set_cons_succ, i64_w, i32_w]
    rfl
   refine pure_ (i := 1) (N := some 30) (v := ?_) (a' := ?_) #[true, true, false, false, false, false, false, false, false, false, false, false] rfl rfl (any_of HT_.out (by kernel_rfl)) (fun _ _ _ h => h) (Or.inl ⟨by rfl, ?_⟩) ?_ ?_
   rotate_left
   ·intro w'
    go_simp
    with_reducible rfl
   rotate_left
   ·simp only [Act.put, List.setIfInBounds_toArray, List.set_cons_zero, List.set_cons_succ, i64_w, i32_w]
    rfl
   refine take_ (i := 2) (N := some 31) (v := ?_) (a' := ?_) #[true, true, true, false, false, false, false, false, false, false, false, false] rfl rfl (take_ofW HT_.out HW_.out (by kernel_rfl)) (fun _ _ _ h => h) (Or.inl ⟨by rfl, ?_⟩) hHeld ?_ ?_
   rotate_left
   ·rintro w' ⟨s0, s1, s2⟩
    go_simp
    with_reducible rfl
   rotate_left
   ·simp only [Act.put, List.setIfInBounds_toArray, List.set_cons_zero, List.set_cons_succ, i64_w, i32_w]
    rfl
   refine pure_ (i := 3) (N := some 32) (v := ?_) (a' := ?_) #[true, true, true, true, false, false, false, false, false, false, false, false] rfl rfl (any_of HT_.out (by kernel_rfl)) (fun _ _ _ h => h) (Or.inl ⟨by rfl, ?_⟩) ?_ ?_
   rotate_left
   ·intro w'
    go_simp
    with_reducible rfl
   rotate_left
   ·simp only [Act.put, List.setIfInBounds_toArray, List.set_cons_zero, List.set_cons_succ, i64_w, i32_w]
    rfl
   refine pure_ (i := 4) (N := some 33) (v := ?_) (a' := ?_) #[true, true, true, true, true, false, false, false, false, false, false, false] rfl rfl (any_of HT_.out (by kernel_rfl)) (fun _ _ _ h => h) (Or.inl ⟨by rfl, ?_⟩) ?_ ?_
   rotate_left
   ·intro w'
    go_simp
    with_reducible rfl
   rotate_left
   ·simp only [Act.put, List.setIfInBounds_toArray, List.set_cons_zero, List.set_cons_succ, i64_w, i32_w]
    rfl
   refine take_ (i := 5) (N := some 34) (v := ?_) (a' := ?_) #[true, true, true, true, true, true, false, false, false, false, false, false] rfl rfl (take_ofW HT_.out HW_.out (by kernel_rfl)) (fun _ _ _ h => h) (Or.inl ⟨by rfl, ?_⟩) hHeld ?_ ?_
   rotate_left
   ·rintro w' ⟨s0, s1, s2⟩
    go_simp
    with_reducible rfl
   rotate_left
   ·simp only [Act.put, List.setIfInBounds_toArray, List.set_cons_zero, List.set_cons_succ, i64_w, i32_w]
    rfl
   refine pure_ (i := 6) (N := some 35) (v := ?_) (a' := ?_) #[true, true, true, true, true, true, true, false, false, false, false, false] rfl rfl (any_of HT_.out (by kernel_rfl)) (fun _ _ _ h => h) (Or.inl ⟨by rfl, ?_⟩) ?_ ?_
   rotate_left
   ·intro w'
    go_simp
    with_reducible rfl
   rotate_left
   ·simp only [Act.put, List.setIfInBounds_toArray, List.set_cons_zero, List.set_cons_succ, i64_w, i32_w]
    rfl
   refine pure_ (i := 7) (N := some 36) (v := ?_) (a' := ?_) #[true, true, true, true, true, true, true, true, false, false, false, false] rfl rfl (any_of HT_.out (by kernel_rfl)) (fun _ _ _ h => h) (Or.inl ⟨by rfl, ?_⟩) ?_ ?_
   rotate_left
   ·intro w'
    go_simp
    with_reducible rfl
   rotate_left
   ·simp only [Act.put, List.setIfInBounds_toArray, List.set_cons_zero, List.set_cons_succ, i64_w, i32_w]
    rfl
   refine take_ (i := 8) (N := some 37) (v := ?_) (a' := ?_) #[true, true, true, true, true, true, true, true, true, false, false, false] rfl rfl (take_ofW HT_.out HW_.out (by kernel_rfl)) (fun _ _ _ h => h) (Or.inl ⟨by rfl, ?_⟩) hHeld ?_ ?_
   rotate_left
   ·rintro w' ⟨s0, s1, s2⟩
    go_simp
    with_reducible rfl
   rotate_left
   ·simp only [Act.put, List.setIfInBounds_toArray, List.set_cons_zero, List.set_cons_succ, i64_w, i32_w]
    rfl
   refine pure_ (i := 9) (N := some 38) (v := ?_) (a' := ?_) #[true, true, true, true, true, true, true, true, true, true, false, false] rfl rfl (any_of HT_.out (by kernel_rfl)) (fun _ _ _ h => h) (Or.inl ⟨by rfl, ?_⟩) ?_ ?_
   rotate_left
   ·intro w'
    go_simp
    with_reducible rfl
   rotate_left
   ·simp only [Act.put, List.setIfInBounds_toArray, List.set_cons_zero, List.set_cons_succ, i64_w, i32_w]
    rfl
   refine one_ (i := 10) (N := some 7) #[true, true, true, true, true, true, true, true, true, true, true, false] rfl rfl (one_of HT_.out (by kernel_rfl)) (by decide) (fun K hK => ?_)
   refine box_step ?hg (N := 7) ?hd (cs := #[.int .i64 0, .int .i64 0, .int .i64 0, .slice none 0 0]) (t := 24) ?hr ?_; (case hd => rfl); (case hg => rfl); (case hr => first | (go_simp; done) | (go_simp; rfl))
   intro gb hg w4 hbox hb
   have HBX := Aside0.mk hbox
   have HGB := Aside0.mk hg
   have HB4 := Aside0.mk hb
   clear hbox hg hb
   refine hK.out _ _ ⟨pw_cell_below HB4.out hHeld.1, pw_cell_below HB4.out hHeld.2.1, pw_cell_below HB4.out hHeld.2.2⟩ (fun hHeld => ?_)
   clear hK K
   refine norm_ (a' := ?_) ?_ ?_
   rotate_left
   ·show Act.put _ (some 7) _ = _
    simp only [Act.put, List.setIfInBounds_toArray, List.set_cons_zero, List.set_cons_succ, i64_w, i32_w]
    rfl
   refine last_ (i := 11) (N := none) #[true, true, true, true, true, true, true, true, true, true, true, true] rfl rfl (one_of HT_.out (by kernel_rfl)) (by decide) (fun K hK => ?_)
   obtain ⟨y0, y1, y2, y3, f0', f1', f2', f3'⟩ := zero_cells HBX.out
   refine skip_ (w1 := ?_) (by rfl) rfl ?_ ?_
   rotate_left
   ·go_simp
    rfl
   refine hK.out _ _ ?_
   clear hK K
   refine done_ (done_of HT_.out (by kernel_rfl)) ?_
   have HRD : Aside0 (ReadAt W1 P gb cur x y z ((((w4.setCell ⟨gb, 0, none⟩ (.int .i64 x)).setCell ⟨gb, 1, none⟩ (.int .i64 y)).setCell ⟨gb, 2, none⟩ (.int .i64 z)).setCell ⟨gb, 3, none⟩ (.slice none 0 0)) (.slice none 0 0) []) := ⟨by
    have hgs : W0.heap.size ≤ gb := by have := HGB.out; omega
    have hb5 := below_set (below_set (below_set (below_set (j := 0) (v := .int .i64 x) HB4.out hgs) (j := 1) (v := .int .i64 y) hgs) (j := 2) (v := .int .i64 z) hgs) (j := 3) (v := .slice none 0 0) hgs
    exact ⟨(hb5.block _ (Array.getElem?_eq_some_iff.1 HP0.out).1).trans HP0.out, blk_set (blk_set (blk_set (blk_set HBX.out 0 _) 1 _) 2 _) 3 _, RowsAt.nil _ _, below_step HBL0.out hb5, by have := HBL0.out.size; omega⟩⟩
   generalize ((((w4.setCell ⟨gb, 0, none⟩ (.int .i64 x)).setCell ⟨gb, 1, none⟩ (.int .i64 y)).setCell ⟨gb, 2, none⟩ (.int .i64 z)).setCell ⟨gb, 3, none⟩ (.slice none 0 0)) = W5 at HRD ⊢
   clear y0 y1 y2 y3 f0' f1' f2' f3' HBX HGB HB4 HBL0 HP0
   have zk : W5.cell? ⟨gb, 2, none⟩ = some (.int .i64 z) := (box_cells HRD.out.box).2.2.1
   by_cases hz : 1 ≤ z ∧ z ≤ 3
   ·have HZ := Aside0.mk hz
    have e1 : decide (z < 1) = false := decide_eq_false (by omega)
    have e2 : decide (3 < z) = false := decide_eq_false (by omega)
    clear hz
    go_wp2
    go_loopg [9] qs.length (fun gg s9 wr => ∃ (i : Nat) (v : Value) (rs : List S40), s9 = .int .i64 (i : Int) ∧ Aside0 (1 ≤ i ∧ i ≤ qs.length + 1) ∧ Aside0 (qs.length + 1 - i = gg) ∧ Aside0 ((qs.take (i - 1)).mapM (ruleR numsQ z.toNat) = some rs) ∧ Aside0 (ReadAt W1 P gb cur x y z wr v rs))
    case atStart => exact ⟨1, _, [], rfl, ⟨by omega⟩, ⟨by omega⟩, ⟨rfl⟩, HRD⟩
    case round =>
     clear HRD zk
     obtain ⟨i, v, rs, rfl, HI2, HG2, HXS, HRD⟩ := hrel
     by_cases ci : i < qs.length + 1
     ·have cib : decide ((i : Int) < (qs.length : Int) + 1) = true := decide_eq_true (by omega)
      have cib2 : decide (i < qs.length + 1) = true := decide_eq_true ci
      have p1 : (0 ≤ (i : Int)) = True := eq_true (by omega)
      have q1 : ((i : Int) < (qs.length : Int) + 1) = True := eq_true (by omega)
      have q2 : (i < qs.length + 1) = True := eq_true ci
      have b1 : (0 : Int) ≤ (i : Int) := by omega
      have b2 : (i : Int) ≤ 2001 := by have := HQC.out; omega
      have hi1 : i - 1 < qs.length := by have := HI2.out; omega
      have HNX : Aside0 (∀ r, ruleR numsQ z.toNat qs[i - 1] = some r → (qs.take (i + 1 - 1)).mapM (ruleR numsQ z.toNat) = some (rs ++ [r])) := ⟨fun r hr => by have h := mapM_next hi1 HXS.out hr; rwa [show i - 1 + 1 = i + 1 - 1 by have := HI2.out; omega] at h⟩
      have HST : Aside0 (ruleR numsQ z.toNat qs[i - 1] = none → parseP numsQ (q0 :: qs) s = none) := ⟨fun hr => parseP_rules_none HI.out (mapM_stop hi1 hr)⟩
      have pc : wr.cell? ⟨P, i, none⟩ = some (.string qs[i - 1]) := by
       have h := cur_at HRD.out.prt HCUR.out (i := i) (by simp; omega)
       rw [h]
       congr 2
       obtain ⟨j, rfl⟩ : ∃ j, i = j + 1 := ⟨i - 1, by have := HI2.out; omega⟩
       rfl
      have HPS : Aside0 (qs[i - 1].size ≤ 4000) := ⟨HQL.out _ (List.mem_cons_of_mem _ (List.getElem_mem hi1))⟩
      have CI := Aside0.mk ci
      obtain ⟨p, hp⟩ : ∃ p, p = qs[i - 1] := ⟨_, rfl⟩
      rw [← hp] at HNX HST pc HPS
      clear hp ci hi1
      have HBL := Aside0.mk HRD.out.below
      cases hl : numsQ p with
      | none =>
       have HPQ := Aside0.mk (HST.out (by unfold ruleR; rw [hl]; rfl))
       have HI3 := Aside0.mk hl
       clear hl
       go_wp2_with (go_at_call 27; (refine (refNumbers_calls p _ (by have := HPS.out; omega)).mono ?_; rw [HI3.out]; rintro e w6 ⟨v6, rfl, hno, hyes, hb⟩; have HRD := Aside0.mk (HRD.out.later hb); have HOW := Aside0.mk hyes; have HBL := Aside0.mk HRD.out.below; obtain ⟨z0, z1, z2, z3, f0, f1, f2, f3⟩ := zero_cells (res0 HBL.out); obtain ⟨Ah, ch2, eh⟩ := hno rfl; subst eh; clear hno hyes hb))
       refine bodyPost_ret (v := .tuple #[zeroM, .bool false]) (by simp [results, Tryd.results13, go_sem, z0, z1, z2, z3, zeroM]) rfl ?_
       exact ⟨below_set (below_set (below_set (below_set (below_step HB1.out HBL.out) (Nat.le_refl _)) (Nat.le_refl _)) (Nat.le_refl _)) (Nat.le_refl _), by rw [HPQ.out]⟩
      | some l =>
       have HI3 := Aside0.mk hl
       have HZC : Aside0 (z = 1 ∨ z = 2 ∨ z = 3) := ⟨by have := HZ.out; omega⟩
       by_cases h5 : l.length = 2 + 3 * z.toNat
       ·have HNX2 := Aside0.mk (HNX.out (ruleOf z.toNat l) (by unfold ruleR; rw [hl]; simp only [Option.bind_some]; rw [if_pos h5]))
        clear hl
        obtain ⟨Av, nv, cv, hva⟩ := HRD.out.rows.slice
        subst hva
        have HLN : Aside0 (l ≠ []) := ⟨fun e => by rw [e] at h5; simp at h5; omega⟩
        rcases HZC.out with hz1 | hz1 | hz1
        ·subst hz1
         have h5 : l.length = 5 := h5
         go_wp2_with (go_at_call 27; (refine (refNumbers_calls p _ (by have := HPS.out; omega)).mono ?_; rw [HI3.out]; rintro e w6 ⟨v6, rfl, hno, hyes, hb⟩; have HRD := Aside0.mk (HRD.out.later hb); have HOW := Aside0.mk hyes; have HBL := Aside0.mk HRD.out.below; obtain ⟨z0, z1, z2, z3, f0, f1, f2, f3⟩ := zero_cells (res0 HBL.out); have how := hyes _ rfl; obtain ⟨gl, cl, eh, hgl, hrow⟩ := own_row how rfl HLN.out; rw [eh] at how; have HPT := Aside0.mk (rule_parts (k := 1) how h5 (by omega)); have HCP := own_cap how; rw [h5] at eh HCP; subst eh; have l0 := hrow.rdcell (j := 0) (by omega); have lk := hrow.rdcell (j := 1 + 1) (by omega); have HGL := Aside0.mk hgl; obtain ⟨b0, b1, b2, b3⟩ := box_cells HRD.out.box; clear hno hyes hb how hgl hrow))
         have c_0 : (1 ≤ cl) = True := eq_true (by omega)
         have c_1 : (2 ≤ cl) = True := eq_true (by omega)
         have c_2 : (3 ≤ cl) = True := eq_true (by omega)
         have c_3 : (4 ≤ cl) = True := eq_true (by omega)
         have c_4 : (5 ≤ cl) = True := eq_true (by omega)
         have m_0 : (cl = 1) = False := eq_false (by omega)
         have m_1 : (cl = 3) = False := eq_false (by omega)
         have m_2 : (cl = 4) = False := eq_false (by omega)
         have d_0 : ((1 : Int) ≤ (cl : Int)) = True := eq_true (by omega)
         have d_1 : ((2 : Int) ≤ (cl : Int)) = True := eq_true (by omega)
         have d_2 : ((3 : Int) ≤ (cl : Int)) = True := eq_true (by omega)
         have d_3 : ((4 : Int) ≤ (cl : Int)) = True := eq_true (by omega)
         have d_4 : ((5 : Int) ≤ (cl : Int)) = True := eq_true (by omega)
         have HCP2 := Aside0.mk HCP
         clear HCP
         refine start_ (n := 31) (S := fun w' => w'.cell? ⟨gb, 3, none⟩ = some (.slice Av nv cv) ∧ w'.cell? ⟨gl, 0, none⟩ = some (.int .i64 (rd l ((0 : Nat) : Int))) ∧ w'.cell? ⟨gl, 2, none⟩ = some (.int .i64 (rd l ((2 : Nat) : Int)))) (ds := [28, 30]) #[false, false, false, false, false, false, false, false, false, false, false, false, false, false, false, false, false, false, false, false, false, false, false, false, false, false, false, false, false, false, false] (by kernel_rfl) rfl rfl ⟨b3, l0, lk⟩ (fun hHeld => ?_); refine with_tabW reg13_15.tab reg13_15.bits (fun HT_ HW_ => ?_)
         have HRD0 := Aside0.mk (HRD.out.later (below_drew (Below.refl _ _)))
         have HPT0 : Aside0 (∀ c1 c3 c4, 1 ≤ c1 → 1 ≤ c3 → 1 ≤ c4 → SlAt w6.drew (some ⟨gl, 1, none⟩) c1 (ruleOf 1 l).f1 ∧ SlAt w6.drew (some ⟨gl, 1 + 2, none⟩) c3 (ruleOf 1 l).f3 ∧ SlAt w6.drew (some ⟨gl, 2 * 1 + 2, none⟩) c4 (ruleOf 1 l).f4) := ⟨fun c1 c3 c4 q1 q3 q4 => by have h := HPT.out.2 c1 c3 c4 q1 q3 q4; have hk := Keep3.of_below (below_drew (Below.refl w6.heap.size w6)); exact ⟨h.1.keep hk, h.2.1.keep hk, h.2.2.keep hk⟩⟩
         generalize w6.drew = W0 at HRD0 HPT0 hHeld ⊢
         clear b0 b1 b2 b3 l0 lk
         refine pure_ (i := 0) (N := some 73) (v := ?_) (a' := ?_) #[true, false, false, false, false, false, false, false, false, false, false, false, false, false, false, false, false, false, false, false, false, false, false, false, false, false, false, false, false, false, false] rfl rfl (any_of HT_.out (by kernel_rfl)) (fun _ _ _ h => h) (Or.inl ⟨by rfl, ?_⟩) ?_ ?_
         rotate_left
         ·intro w'
          go_simp
          with_reducible rfl
         rotate_left
         ·simp only [Act.put, List.setIfInBounds_toArray, List.set_cons_zero, List.set_cons_succ, i64_w, i32_w]
          rfl
         refine take_ (i := 1) (N := some 74) (v := ?_) (a' := ?_) #[true, true, false, false, false, false, false, false, false, false, false, false, false, false, false, false, false, false, false, false, false, false, false, false, false, false, false, false, false, false, false] rfl rfl (take_ofW HT_.out HW_.out (by kernel_rfl)) (fun _ _ _ h => h) (Or.inl ⟨by rfl, ?_⟩) hHeld ?_ ?_
         rotate_left
         ·rintro w' ⟨s0, s1, s2⟩
          go_simp
          with_reducible rfl
         rotate_left
         ·simp only [Act.put, List.setIfInBounds_toArray, List.set_cons_zero, List.set_cons_succ, i64_w, i32_w]
          rfl
         refine pure_ (i := 2) (N := some 75) (v := ?_) (a' := ?_) #[true, true, true, false, false, false, false, false, false, false, false, false, false, false, false, false, false, false, false, false, false, false, false, false, false, false, false, false, false, false, false] rfl rfl (any_of HT_.out (by kernel_rfl)) (fun _ _ _ h => h) (Or.inl ⟨by rfl, ?_⟩) ?_ ?_
         rotate_left
         ·intro w'
          go_simp
          with_reducible rfl
         rotate_left
         ·simp only [Act.put, List.setIfInBounds_toArray, List.set_cons_zero, List.set_cons_succ, i64_w, i32_w]
          rfl
         refine pure_ (i := 3) (N := some 76) (v := ?_) (a' := ?_) #[true, true, true, true, false, false, false, false, false, false, false, false, false, false, false, false, false, false, false, false, false, false, false, false, false, false, false, false, false, false, false] rfl rfl (any_of HT_.out (by kernel_rfl)) (fun _ _ _ h => h) (Or.inl ⟨by rfl, ?_⟩) ?_ ?_
         rotate_left
         ·intro w'
          go_simp
          with_reducible rfl
         rotate_left
         ·simp only [Act.put, List.setIfInBounds_toArray, List.set_cons_zero, List.set_cons_succ, i64_w, i32_w]
          rfl
         refine take_ (i := 4) (N := some 77) (v := ?_) (a' := ?_) #[true, true, true, true, true, false, false, false, false, false, false, false, false, false, false, false, false, false, false, false, false, false, false, false, false, false, false, false, false, false, false] rfl rfl (take_ofW HT_.out HW_.out (by kernel_rfl)) (fun _ _ _ h => h) (Or.inl ⟨by rfl, ?_⟩) hHeld ?_ ?_
         rotate_left
         ·rintro w' ⟨s0, s1, s2⟩
          go_simp
          with_reducible rfl
         rotate_left
         ·simp only [Act.put, List.setIfInBounds_toArray, List.set_cons_zero, List.set_cons_succ, i64_w, i32_w]
          rfl
         refine pure_ (i := 5) (N := some 78) (v := ?_) (a' := ?_) #[true, true, true, true, true, true, false, false, false, false, false, false, false, false, false, false, false, false, false, false, false, false, false, false, false, false, false, false, false, false, false] rfl rfl (any_of HT_.out (by kernel_rfl)) (fun _ _ _ h => h) (Or.inl ⟨by rfl, ?_⟩) ?_ ?_
         rotate_left
         ·intro w'
          go_simp
          with_reducible rfl
         rotate_left
         ·simp only [Act.put, List.setIfInBounds_toArray, List.set_cons_zero, List.set_cons_succ, i64_w, i32_w]
          rfl
         refine pure_ (i := 6) (N := some 79) (v := ?_) (a' := ?_) #[true, true, true, true, true, true, true, false, false, false, false, false, false, false, false, false, false, false, false, false, false, false, false, false, false, false, false, false, false, false, false] rfl rfl (any_of HT_.out (by kernel_rfl)) (fun _ _ _ h => h) (Or.inl ⟨by rfl, ?_⟩) ?_ ?_
         rotate_left
         ·intro w'
          go_simp
          with_reducible rfl
         rotate_left
         ·simp only [Act.put, List.setIfInBounds_toArray, List.set_cons_zero, List.set_cons_succ, i64_w, i32_w]
          rfl
         refine pure_ (i := 7) (N := some 80) (v := (.int .i64 2)) (a' := ?_) #[true, true, true, true, true, true, true, true, false, false, false, false, false, false, false, false, false, false, false, false, false, false, false, false, false, false, false, false, false, false, false] rfl rfl (any_of HT_.out (by kernel_rfl)) (fun _ _ _ h => h) (Or.inl ⟨by rfl, ?_⟩) ?_ ?_
         ·intro w'
          go_simp
          first | done | rfl
         rotate_left
         ·simp only [Act.put, List.setIfInBounds_toArray, List.set_cons_zero, List.set_cons_succ, i64_w, i32_w]
          rfl
         refine pure_ (i := 8) (N := some 81) (v := ?_) (a' := ?_) #[true, true, true, true, true, true, true, true, true, false, false, false, false, false, false, false, false, false, false, false, false, false, false, false, false, false, false, false, false, false, false] rfl rfl (any_of HT_.out (by kernel_rfl)) (fun _ _ _ h => h) (Or.inl ⟨by rfl, ?_⟩) ?_ ?_
         rotate_left
         ·intro w'
          go_simp
          with_reducible rfl
         rotate_left
         ·simp only [Act.put, List.setIfInBounds_toArray, List.set_cons_zero, List.set_cons_succ, i64_w, i32_w]
          rfl
         refine pure_ (i := 9) (N := some 82) (v := ?_) (a' := ?_) #[true, true, true, true, true, true, true, true, true, true, false, false, false, false, false, false, false, false, false, false, false, false, false, false, false, false, false, false, false, false, false] rfl rfl (any_of HT_.out (by kernel_rfl)) (fun _ _ _ h => h) (Or.inl ⟨by rfl, ?_⟩) ?_ ?_
         rotate_left
         ·intro w'
          go_simp
          with_reducible rfl
         rotate_left
         ·simp only [Act.put, List.setIfInBounds_toArray, List.set_cons_zero, List.set_cons_succ, i64_w, i32_w]
          rfl
         refine pure_ (i := 10) (N := some 83) (v := ?_) (a' := ?_) #[true, true, true, true, true, true, true, true, true, true, true, false, false, false, false, false, false, false, false, false, false, false, false, false, false, false, false, false, false, false, false] rfl rfl (any_of HT_.out (by kernel_rfl)) (fun _ _ _ h => h) (Or.inl ⟨by rfl, ?_⟩) ?_ ?_
         rotate_left
         ·intro w'
          go_simp
          with_reducible rfl
         rotate_left
         ·simp only [Act.put, List.setIfInBounds_toArray, List.set_cons_zero, List.set_cons_succ, i64_w, i32_w]
          rfl
         refine pure_ (i := 11) (N := some 84) (v := (.int .i64 2)) (a' := ?_) #[true, true, true, true, true, true, true, true, true, true, true, true, false, false, false, false, false, false, false, false, false, false, false, false, false, false, false, false, false, false, false] rfl rfl (any_of HT_.out (by kernel_rfl)) (fun _ _ _ h => h) (Or.inl ⟨by rfl, ?_⟩) ?_ ?_
         ·intro w'
          go_simp
          first | done | rfl
         rotate_left
         ·simp only [Act.put, List.setIfInBounds_toArray, List.set_cons_zero, List.set_cons_succ, i64_w, i32_w]
          rfl
         refine pure_ (i := 12) (N := some 85) (v := ?_) (a' := ?_) #[true, true, true, true, true, true, true, true, true, true, true, true, true, false, false, false, false, false, false, false, false, false, false, false, false, false, false, false, false, false, false] rfl rfl (any_of HT_.out (by kernel_rfl)) (fun _ _ _ h => h) (Or.inl ⟨by rfl, ?_⟩) ?_ ?_
         rotate_left
         ·intro w'
          go_simp
          with_reducible rfl
         rotate_left
         ·simp only [Act.put, List.setIfInBounds_toArray, List.set_cons_zero, List.set_cons_succ, i64_w, i32_w]
          rfl
         refine take_ (i := 13) (N := some 86) (v := ?_) (a' := ?_) #[true, true, true, true, true, true, true, true, true, true, true, true, true, true, false, false, false, false, false, false, false, false, false, false, false, false, false, false, false, false, false] rfl rfl (take_ofW HT_.out HW_.out (by kernel_rfl)) (fun _ _ _ h => h) (Or.inl ⟨by rfl, ?_⟩) hHeld ?_ ?_
         rotate_left
         ·rintro w' ⟨s0, s1, s2⟩
          go_simp
          with_reducible rfl
         rotate_left
         ·simp only [Act.put, List.setIfInBounds_toArray, List.set_cons_zero, List.set_cons_succ, i64_w, i32_w]
          rfl
         refine pure_ (i := 14) (N := some 87) (v := ?_) (a' := ?_) #[true, true, true, true, true, true, true, true, true, true, true, true, true, true, true, false, false, false, false, false, false, false, false, false, false, false, false, false, false, false, false] rfl rfl (any_of HT_.out (by kernel_rfl)) (fun _ _ _ h => h) (Or.inl ⟨by rfl, ?_⟩) ?_ ?_
         rotate_left
         ·intro w'
          go_simp
          with_reducible rfl
         rotate_left
         ·simp only [Act.put, List.setIfInBounds_toArray, List.set_cons_zero, List.set_cons_succ, i64_w, i32_w]
          rfl
         refine pure_ (i := 15) (N := some 88) (v := ?_) (a' := ?_) #[true, true, true, true, true, true, true, true, true, true, true, true, true, true, true, true, false, false, false, false, false, false, false, false, false, false, false, false, false, false, false] rfl rfl (any_of HT_.out (by kernel_rfl)) (fun _ _ _ h => h) (Or.inl ⟨by rfl, ?_⟩) ?_ ?_
         rotate_left
         ·intro w'
          go_simp
          with_reducible rfl
         rotate_left
         ·simp only [Act.put, List.setIfInBounds_toArray, List.set_cons_zero, List.set_cons_succ, i64_w, i32_w]
          rfl
         refine pure_ (i := 16) (N := some 89) (v := (.int .i64 3)) (a' := ?_) #[true, true, true, true, true, true, true, true, true, true, true, true, true, true, true, true, true, false, false, false, false, false, false, false, false, false, false, false, false, false, false] rfl rfl (any_of HT_.out (by kernel_rfl)) (fun _ _ _ h => h) (Or.inl ⟨by rfl, ?_⟩) ?_ ?_
         ·intro w'
          go_simp
          first | done | rfl
         rotate_left
         ·simp only [Act.put, List.setIfInBounds_toArray, List.set_cons_zero, List.set_cons_succ, i64_w, i32_w]
          rfl
         refine pure_ (i := 17) (N := some 90) (v := ?_) (a' := ?_) #[true, true, true, true, true, true, true, true, true, true, true, true, true, true, true, true, true, true, false, false, false, false, false, false, false, false, false, false, false, false, false] rfl rfl (any_of HT_.out (by kernel_rfl)) (fun _ _ _ h => h) (Or.inl ⟨by rfl, ?_⟩) ?_ ?_
         rotate_left
         ·intro w'
          go_simp
          with_reducible rfl
         rotate_left
         ·simp only [Act.put, List.setIfInBounds_toArray, List.set_cons_zero, List.set_cons_succ, i64_w, i32_w]
          rfl
         refine pure_ (i := 18) (N := some 91) (v := (.int .i64 2)) (a' := ?_) #[true, true, true, true, true, true, true, true, true, true, true, true, true, true, true, true, true, true, true, false, false, false, false, false, false, false, false, false, false, false, false] rfl rfl (any_of HT_.out (by kernel_rfl)) (fun _ _ _ h => h) (Or.inl ⟨by rfl, ?_⟩) ?_ ?_
         ·intro w'
          go_simp
          first | done | rfl
         rotate_left
         ·simp only [Act.put, List.setIfInBounds_toArray, List.set_cons_zero, List.set_cons_succ, i64_w, i32_w]
          rfl
         refine pure_ (i := 19) (N := some 92) (v := (.int .i64 4)) (a' := ?_) #[true, true, true, true, true, true, true, true, true, true, true, true, true, true, true, true, true, true, true, true, false, false, false, false, false, false, false, false, false, false, false] rfl rfl (any_of HT_.out (by kernel_rfl)) (fun _ _ _ h => h) (Or.inl ⟨by rfl, ?_⟩) ?_ ?_
         ·intro w'
          go_simp
          first | done | rfl
         rotate_left
         ·simp only [Act.put, List.setIfInBounds_toArray, List.set_cons_zero, List.set_cons_succ, i64_w, i32_w]
          rfl
         refine pure_ (i := 20) (N := some 93) (v := ?_) (a' := ?_) #[true, true, true, true, true, true, true, true, true, true, true, true, true, true, true, true, true, true, true, true, true, false, false, false, false, false, false, false, false, false, false] rfl rfl (any_of HT_.out (by kernel_rfl)) (fun _ _ _ h => h) (Or.inl ⟨by rfl, ?_⟩) ?_ ?_
         rotate_left
         ·intro w'
          go_simp
          with_reducible rfl
         rotate_left
         ·simp only [Act.put, List.setIfInBounds_toArray, List.set_cons_zero, List.set_cons_succ, i64_w, i32_w]
          rfl
         refine pure_ (i := 21) (N := some 94) (v := ?_) (a' := ?_) #[true, true, true, true, true, true, true, true, true, true, true, true, true, true, true, true, true, true, true, true, true, true, false, false, false, false, false, false, false, false, false] rfl rfl (any_of HT_.out (by kernel_rfl)) (fun _ _ _ h => h) (Or.inl ⟨by rfl, ?_⟩) ?_ ?_
         rotate_left
         ·intro w'
          go_simp
          with_reducible rfl
         rotate_left
         ·simp only [Act.put, List.setIfInBounds_toArray, List.set_cons_zero, List.set_cons_succ, i64_w, i32_w]
          rfl
         refine pure_ (i := 22) (N := some 95) (v := ?_) (a' := ?_) #[true, true, true, true, true, true, true, true, true, true, true, true, true, true, true, true, true, true, true, true, true, true, true, false, false, false, false, false, false, false, false] rfl rfl (any_of HT_.out (by kernel_rfl)) (fun _ _ _ h => h) (Or.inl ⟨by rfl, ?_⟩) ?_ ?_
         rotate_left
         ·intro w'
          go_simp
          with_reducible rfl
         rotate_left
         ·simp only [Act.put, List.setIfInBounds_toArray, List.set_cons_zero, List.set_cons_succ, i64_w, i32_w]
          rfl
         refine pure_ (i := 23) (N := some 96) (v := (.int .i64 2)) (a' := ?_) #[true, true, true, true, true, true, true, true, true, true, true, true, true, true, true, true, true, true, true, true, true, true, true, true, false, false, false, false, false, false, false] rfl rfl (any_of HT_.out (by kernel_rfl)) (fun _ _ _ h => h) (Or.inl ⟨by rfl, ?_⟩) ?_ ?_
         ·intro w'
          go_simp
          first | done | rfl
         rotate_left
         ·simp only [Act.put, List.setIfInBounds_toArray, List.set_cons_zero, List.set_cons_succ, i64_w, i32_w]
          rfl
         refine pure_ (i := 24) (N := some 97) (v := (.int .i64 4)) (a' := ?_) #[true, true, true, true, true, true, true, true, true, true, true, true, true, true, true, true, true, true, true, true, true, true, true, true, true, false, false, false, false, false, false] rfl rfl (any_of HT_.out (by kernel_rfl)) (fun _ _ _ h => h) (Or.inl ⟨by rfl, ?_⟩) ?_ ?_
         ·intro w'
          go_simp
          first | done | rfl
         rotate_left
         ·simp only [Act.put, List.setIfInBounds_toArray, List.set_cons_zero, List.set_cons_succ, i64_w, i32_w]
          rfl
         refine pure_ (i := 25) (N := some 98) (v := ?_) (a' := ?_) #[true, true, true, true, true, true, true, true, true, true, true, true, true, true, true, true, true, true, true, true, true, true, true, true, true, true, false, false, false, false, false] rfl rfl (any_of HT_.out (by kernel_rfl)) (fun _ _ _ h => h) (Or.inl ⟨by rfl, ?_⟩) ?_ ?_
         rotate_left
         ·intro w'
          go_simp
          with_reducible rfl
         rotate_left
         ·simp only [Act.put, List.setIfInBounds_toArray, List.set_cons_zero, List.set_cons_succ, i64_w, i32_w]
          rfl
         refine pure_ (i := 26) (N := some 99) (v := ?_) (a' := ?_) #[true, true, true, true, true, true, true, true, true, true, true, true, true, true, true, true, true, true, true, true, true, true, true, true, true, true, true, false, false, false, false] rfl rfl (any_of HT_.out (by kernel_rfl)) (fun _ _ _ h => h) (Or.inl ⟨by rfl, ?_⟩) ?_ ?_
         rotate_left
         ·intro w'
          go_simp
          with_reducible rfl
         rotate_left
         ·simp only [Act.put, List.setIfInBounds_toArray, List.set_cons_zero, List.set_cons_succ, i64_w, i32_w]
          rfl
         have HPR := Aside0.mk HPT.out.1
         have hcl1 : 1 ≤ cl - 1 := by have := HCP2.out; omega
         have hcl3 : 1 ≤ cl - 3 := by have := HCP2.out; omega
         have hcl4 : 1 ≤ cl - 4 := by have := HCP2.out; omega
         have HSL := Aside0.mk (HPT0.out (cl - 1) (cl - 3) (cl - 4) hcl1 hcl3 hcl4)
         obtain ⟨W2, hW2⟩ : ∃ W2, W0.alloc (.cells #[.int .i64 (ruleOf 1 l).f0, .slice (some ⟨gl, 1, none⟩) 1 (cl - 1), .int .i64 (ruleOf 1 l).f2, .slice (some ⟨gl, 3, none⟩) 1 (cl - 3), .slice (some ⟨gl, 4, none⟩) 1 (cl - 4)] 40) = W2 := ⟨_, rfl⟩
         have hb2 : Below W0.heap.size W0 W2 := by rw [← hW2]; exact below_alloc (Below.refl _ _) _
         clear hcl1 hcl3 hcl4
         refine one_ (i := 27) (N := some 100) #[true, true, true, true, true, true, true, true, true, true, true, true, true, true, true, true, true, true, true, true, true, true, true, true, true, true, true, true, false, false, false] rfl rfl (one_of HT_.out (by kernel_rfl)) (by decide) (fun K hK => ?_)
         refine event_step (v := .slice (some ⟨W0.heap.size, 0, none⟩) 1 1) (w1 := W2) (by rfl) (by rw [← hW2]; exact exec_buildR rfl rfl) ?_
         obtain ⟨hnr, hbk2, hs2, xs, hO2, hP2⟩ := read_push HRD0.out hW2 HPR.out.1.symm HPR.out.2.1.symm HPR.out.2.2.symm HSL.out.1 HSL.out.2.1 HSL.out.2.2
         have HNR := Aside0.mk hnr
         have HBK2 := Aside0.mk hbk2
         have HS2 := Aside0.mk hs2
         have HO2 := Aside0.mk hO2
         have HP2 := Aside0.mk hP2
         refine hK.out _ _ ⟨pw_cell_below hb2 hHeld.1, pw_cell_below hb2 hHeld.2.1, pw_cell_below hb2 hHeld.2.2⟩ (fun hHeld2 => ?_)
         clear hK K hW2 hb2 hnr hbk2 hs2 hO2 hP2
         refine norm_ (a' := ?_) ?_ ?_
         rotate_left
         ·show Act.put _ (some 100) _ = _
          simp only [Act.put, List.setIfInBounds_toArray, List.set_cons_zero, List.set_cons_succ, i64_w, i32_w]
          rfl
         refine last_ (i := 28) (N := some 101) #[true, true, true, true, true, true, true, true, true, true, true, true, true, true, true, true, true, true, true, true, true, true, true, true, true, true, true, true, true, false, false] rfl rfl (one_of HT_.out (by kernel_rfl)) (by decide) (fun K hK => ?_)
         refine append_rule_ev (by rfl) rfl (by rfl) (by rfl) HO2.out HBK2.out cell5 (by have h1 := mapM_len HXS.out; have h2 := HQC.out; have h3 := HNR.out; have h4 : (qs.take (i - 1)).length ≤ i - 1 := List.length_take_le _ _; have h5 := HI2.out; omega) HS2.out ?_
         intro v7 w7 q1 q2
         obtain ⟨hbx, hRDn⟩ := HP2.out v7 w7 q1 q2
         obtain ⟨A7, c7, hv7⟩ := own_slice q1
         subst hv7
         have HRN := Aside0.mk hRDn
         obtain ⟨b0, b1, b2, b3⟩ := box_cells hbx
         have b4 := blk_frozen hbx 3
         clear q1 q2 hbx hRDn hHeld2
         refine hK.out _ _ ?_
         clear hK K
         refine norm_ (a' := ?_) ?_ ?_
         rotate_left
         ·show Act.put _ (some 101) _ = _
          simp only [Act.put, List.setIfInBounds_toArray, List.set_cons_zero, List.set_cons_succ, i64_w, i32_w]
          rfl
         refine pure_ (i := 29) (N := some 102) (v := ?_) (a' := ?_) #[true, true, true, true, true, true, true, true, true, true, true, true, true, true, true, true, true, true, true, true, true, true, true, true, true, true, true, true, true, true, false] rfl rfl (any_of HT_.out (by kernel_rfl)) (fun _ _ _ h => h) (Or.inl ⟨by rfl, ?_⟩) ?_ ?_
         rotate_left
         ·intro w'
          go_simp
          with_reducible rfl
         rotate_left
         ·simp only [Act.put, List.setIfInBounds_toArray, List.set_cons_zero, List.set_cons_succ, i64_w, i32_w]
          rfl
         refine last_ (i := 30) (N := none) #[true, true, true, true, true, true, true, true, true, true, true, true, true, true, true, true, true, true, true, true, true, true, true, true, true, true, true, true, true, true, true] rfl rfl (one_of HT_.out (by kernel_rfl)) (by decide) (fun K hK => ?_)
         refine skip_ (w1 := ?_) (by rfl) rfl ?_ ?_
         rotate_left
         ·go_simp
          rfl
         refine hK.out _ _ ?_
         clear hK K
         refine done_ (done_of HT_.out (by kernel_rfl)) ?_
         go_wp2
         go_roundg (qs.length + 1 - (i + 1))
         case measure => have := HG2.out; have := CI.out; omega
         case rel =>
          have := CI.out
          exact ⟨i + 1, _, _, by simp, ⟨by omega⟩, ⟨by omega⟩, ⟨HNX2.out⟩, HRN⟩
        ·subst hz1
         have h5 : l.length = 8 := h5
         go_wp2_with (go_at_call 27; (refine (refNumbers_calls p _ (by have := HPS.out; omega)).mono ?_; rw [HI3.out]; rintro e w6 ⟨v6, rfl, hno, hyes, hb⟩; have HRD := Aside0.mk (HRD.out.later hb); have HOW := Aside0.mk hyes; have HBL := Aside0.mk HRD.out.below; obtain ⟨z0, z1, z2, z3, f0, f1, f2, f3⟩ := zero_cells (res0 HBL.out); have how := hyes _ rfl; obtain ⟨gl, cl, eh, hgl, hrow⟩ := own_row how rfl HLN.out; rw [eh] at how; have HPT := Aside0.mk (rule_parts (k := 2) how h5 (by omega)); have HCP := own_cap how; rw [h5] at eh HCP; subst eh; have l0 := hrow.rdcell (j := 0) (by omega); have lk := hrow.rdcell (j := 2 + 1) (by omega); have HGL := Aside0.mk hgl; obtain ⟨b0, b1, b2, b3⟩ := box_cells HRD.out.box; clear hno hyes hb how hgl hrow))
         have c_0 : (1 ≤ cl) = True := eq_true (by omega)
         have c_1 : (3 ≤ cl) = True := eq_true (by omega)
         have c_2 : (4 ≤ cl) = True := eq_true (by omega)
         have c_3 : (6 ≤ cl) = True := eq_true (by omega)
         have c_4 : (8 ≤ cl) = True := eq_true (by omega)
         have m_0 : (cl = 1) = False := eq_false (by omega)
         have m_1 : (cl = 4) = False := eq_false (by omega)
         have m_2 : (cl = 6) = False := eq_false (by omega)
         have d_0 : ((1 : Int) ≤ (cl : Int)) = True := eq_true (by omega)
         have d_1 : ((3 : Int) ≤ (cl : Int)) = True := eq_true (by omega)
         have d_2 : ((4 : Int) ≤ (cl : Int)) = True := eq_true (by omega)
         have d_3 : ((6 : Int) ≤ (cl : Int)) = True := eq_true (by omega)
         have d_4 : ((8 : Int) ≤ (cl : Int)) = True := eq_true (by omega)
         have HCP2 := Aside0.mk HCP
         clear HCP
         refine start_ (n := 31) (S := fun w' => w'.cell? ⟨gb, 3, none⟩ = some (.slice Av nv cv) ∧ w'.cell? ⟨gl, 0, none⟩ = some (.int .i64 (rd l ((0 : Nat) : Int))) ∧ w'.cell? ⟨gl, 3, none⟩ = some (.int .i64 (rd l ((3 : Nat) : Int)))) (ds := [28, 30]) #[false, false, false, false, false, false, false, false, false, false, false, false, false, false, false, false, false, false, false, false, false, false, false, false, false, false, false, false, false, false, false] (by kernel_rfl) rfl rfl ⟨b3, l0, lk⟩ (fun hHeld => ?_); refine with_tabW reg13_15.tab reg13_15.bits (fun HT_ HW_ => ?_)
         have HRD0 := Aside0.mk (HRD.out.later (below_drew (Below.refl _ _)))
         have HPT0 : Aside0 (∀ c1 c3 c4, 2 ≤ c1 → 2 ≤ c3 → 2 ≤ c4 → SlAt w6.drew (some ⟨gl, 1, none⟩) c1 (ruleOf 2 l).f1 ∧ SlAt w6.drew (some ⟨gl, 2 + 2, none⟩) c3 (ruleOf 2 l).f3 ∧ SlAt w6.drew (some ⟨gl, 2 * 2 + 2, none⟩) c4 (ruleOf 2 l).f4) := ⟨fun c1 c3 c4 q1 q3 q4 => by have h := HPT.out.2 c1 c3 c4 q1 q3 q4; have hk := Keep3.of_below (below_drew (Below.refl w6.heap.size w6)); exact ⟨h.1.keep hk, h.2.1.keep hk, h.2.2.keep hk⟩⟩
         generalize w6.drew = W0 at HRD0 HPT0 hHeld ⊢
         clear b0 b1 b2 b3 l0 lk
         refine pure_ (i := 0) (N := some 73) (v := ?_) (a' := ?_) #[true, false, false, false, false, false, false, false, false, false, false, false, false, false, false, false, false, false, false, false, false, false, false, false, false, false, false, false, false, false, false] rfl rfl (any_of HT_.out (by kernel_rfl)) (fun _ _ _ h => h) (Or.inl ⟨by rfl, ?_⟩) ?_ ?_
         rotate_left
         ·intro w'
          go_simp
          with_reducible rfl
         rotate_left
         ·simp only [Act.put, List.setIfInBounds_toArray, List.set_cons_zero, List.set_cons_succ, i64_w, i32_w]
          rfl
         refine take_ (i := 1) (N := some 74) (v := ?_) (a' := ?_) #[true, true, false, false, false, false, false, false, false, false, false, false, false, false, false, false, false, false, false, false, false, false, false, false, false, false, false, false, false, false, false] rfl rfl (take_ofW HT_.out HW_.out (by kernel_rfl)) (fun _ _ _ h => h) (Or.inl ⟨by rfl, ?_⟩) hHeld ?_ ?_
         rotate_left
         ·rintro w' ⟨s0, s1, s2⟩
          go_simp
          with_reducible rfl
         rotate_left
         ·simp only [Act.put, List.setIfInBounds_toArray, List.set_cons_zero, List.set_cons_succ, i64_w, i32_w]
          rfl
         refine pure_ (i := 2) (N := some 75) (v := ?_) (a' := ?_) #[true, true, true, false, false, false, false, false, false, false, false, false, false, false, false, false, false, false, false, false, false, false, false, false, false, false, false, false, false, false, false] rfl rfl (any_of HT_.out (by kernel_rfl)) (fun _ _ _ h => h) (Or.inl ⟨by rfl, ?_⟩) ?_ ?_
         rotate_left
         ·intro w'
          go_simp
          with_reducible rfl
         rotate_left
         ·simp only [Act.put, List.setIfInBounds_toArray, List.set_cons_zero, List.set_cons_succ, i64_w, i32_w]
          rfl
         refine pure_ (i := 3) (N := some 76) (v := ?_) (a' := ?_) #[true, true, true, true, false, false, false, false, false, false, false, false, false, false, false, false, false, false, false, false, false, false, false, false, false, false, false, false, false, false, false] rfl rfl (any_of HT_.out (by kernel_rfl)) (fun _ _ _ h => h) (Or.inl ⟨by rfl, ?_⟩) ?_ ?_
         rotate_left
         ·intro w'
          go_simp
          with_reducible rfl
         rotate_left
         ·simp only [Act.put, List.setIfInBounds_toArray, List.set_cons_zero, List.set_cons_succ, i64_w, i32_w]
          rfl
         refine take_ (i := 4) (N := some 77) (v := ?_) (a' := ?_) #[true, true, true, true, true, false, false, false, false, false, false, false, false, false, false, false, false, false, false, false, false, false, false, false, false, false, false, false, false, false, false] rfl rfl (take_ofW HT_.out HW_.out (by kernel_rfl)) (fun _ _ _ h => h) (Or.inl ⟨by rfl, ?_⟩) hHeld ?_ ?_
         rotate_left
         ·rintro w' ⟨s0, s1, s2⟩
          go_simp
          with_reducible rfl
         rotate_left
         ·simp only [Act.put, List.setIfInBounds_toArray, List.set_cons_zero, List.set_cons_succ, i64_w, i32_w]
          rfl
         refine pure_ (i := 5) (N := some 78) (v := ?_) (a' := ?_) #[true, true, true, true, true, true, false, false, false, false, false, false, false, false, false, false, false, false, false, false, false, false, false, false, false, false, false, false, false, false, false] rfl rfl (any_of HT_.out (by kernel_rfl)) (fun _ _ _ h => h) (Or.inl ⟨by rfl, ?_⟩) ?_ ?_
         rotate_left
         ·intro w'
          go_simp
          with_reducible rfl
         rotate_left
         ·simp only [Act.put, List.setIfInBounds_toArray, List.set_cons_zero, List.set_cons_succ, i64_w, i32_w]
          rfl
         refine pure_ (i := 6) (N := some 79) (v := ?_) (a' := ?_) #[true, true, true, true, true, true, true, false, false, false, false, false, false, false, false, false, false, false, false, false, false, false, false, false, false, false, false, false, false, false, false] rfl rfl (any_of HT_.out (by kernel_rfl)) (fun _ _ _ h => h) (Or.inl ⟨by rfl, ?_⟩) ?_ ?_
         rotate_left
         ·intro w'
          go_simp
          with_reducible rfl
         rotate_left
         ·simp only [Act.put, List.setIfInBounds_toArray, List.set_cons_zero, List.set_cons_succ, i64_w, i32_w]
          rfl
         refine pure_ (i := 7) (N := some 80) (v := (.int .i64 3)) (a' := ?_) #[true, true, true, true, true, true, true, true, false, false, false, false, false, false, false, false, false, false, false, false, false, false, false, false, false, false, false, false, false, false, false] rfl rfl (any_of HT_.out (by kernel_rfl)) (fun _ _ _ h => h) (Or.inl ⟨by rfl, ?_⟩) ?_ ?_
         ·intro w'
          go_simp
          first | done | rfl
         rotate_left
         ·simp only [Act.put, List.setIfInBounds_toArray, List.set_cons_zero, List.set_cons_succ, i64_w, i32_w]
          rfl
         refine pure_ (i := 8) (N := some 81) (v := ?_) (a' := ?_) #[true, true, true, true, true, true, true, true, true, false, false, false, false, false, false, false, false, false, false, false, false, false, false, false, false, false, false, false, false, false, false] rfl rfl (any_of HT_.out (by kernel_rfl)) (fun _ _ _ h => h) (Or.inl ⟨by rfl, ?_⟩) ?_ ?_
         rotate_left
         ·intro w'
          go_simp
          with_reducible rfl
         rotate_left
         ·simp only [Act.put, List.setIfInBounds_toArray, List.set_cons_zero, List.set_cons_succ, i64_w, i32_w]
          rfl
         refine pure_ (i := 9) (N := some 82) (v := ?_) (a' := ?_) #[true, true, true, true, true, true, true, true, true, true, false, false, false, false, false, false, false, false, false, false, false, false, false, false, false, false, false, false, false, false, false] rfl rfl (any_of HT_.out (by kernel_rfl)) (fun _ _ _ h => h) (Or.inl ⟨by rfl, ?_⟩) ?_ ?_
         rotate_left
         ·intro w'
          go_simp
          with_reducible rfl
         rotate_left
         ·simp only [Act.put, List.setIfInBounds_toArray, List.set_cons_zero, List.set_cons_succ, i64_w, i32_w]
          rfl
         refine pure_ (i := 10) (N := some 83) (v := ?_) (a' := ?_) #[true, true, true, true, true, true, true, true, true, true, true, false, false, false, false, false, false, false, false, false, false, false, false, false, false, false, false, false, false, false, false] rfl rfl (any_of HT_.out (by kernel_rfl)) (fun _ _ _ h => h) (Or.inl ⟨by rfl, ?_⟩) ?_ ?_
         rotate_left
         ·intro w'
          go_simp
          with_reducible rfl
         rotate_left
         ·simp only [Act.put, List.setIfInBounds_toArray, List.set_cons_zero, List.set_cons_succ, i64_w, i32_w]
          rfl
         refine pure_ (i := 11) (N := some 84) (v := (.int .i64 3)) (a' := ?_) #[true, true, true, true, true, true, true, true, true, true, true, true, false, false, false, false, false, false, false, false, false, false, false, false, false, false, false, false, false, false, false] rfl rfl (any_of HT_.out (by kernel_rfl)) (fun _ _ _ h => h) (Or.inl ⟨by rfl, ?_⟩) ?_ ?_
         ·intro w'
          go_simp
          first | done | rfl
         rotate_left
         ·simp only [Act.put, List.setIfInBounds_toArray, List.set_cons_zero, List.set_cons_succ, i64_w, i32_w]
          rfl
         refine pure_ (i := 12) (N := some 85) (v := ?_) (a' := ?_) #[true, true, true, true, true, true, true, true, true, true, true, true, true, false, false, false, false, false, false, false, false, false, false, false, false, false, false, false, false, false, false] rfl rfl (any_of HT_.out (by kernel_rfl)) (fun _ _ _ h => h) (Or.inl ⟨by rfl, ?_⟩) ?_ ?_
         rotate_left
         ·intro w'
          go_simp
          with_reducible rfl
         rotate_left
         ·simp only [Act.put, List.setIfInBounds_toArray, List.set_cons_zero, List.set_cons_succ, i64_w, i32_w]
          rfl
         refine take_ (i := 13) (N := some 86) (v := ?_) (a' := ?_) #[true, true, true, true, true, true, true, true, true, true, true, true, true, true, false, false, false, false, false, false, false, false, false, false, false, false, false, false, false, false, false] rfl rfl (take_ofW HT_.out HW_.out (by kernel_rfl)) (fun _ _ _ h => h) (Or.inl ⟨by rfl, ?_⟩) hHeld ?_ ?_
         rotate_left
         ·rintro w' ⟨s0, s1, s2⟩
          go_simp
          with_reducible rfl
         rotate_left
         ·simp only [Act.put, List.setIfInBounds_toArray, List.set_cons_zero, List.set_cons_succ, i64_w, i32_w]
          rfl
         refine pure_ (i := 14) (N := some 87) (v := ?_) (a' := ?_) #[true, true, true, true, true, true, true, true, true, true, true, true, true, true, true, false, false, false, false, false, false, false, false, false, false, false, false, false, false, false, false] rfl rfl (any_of HT_.out (by kernel_rfl)) (fun _ _ _ h => h) (Or.inl ⟨by rfl, ?_⟩) ?_ ?_
         rotate_left
         ·intro w'
          go_simp
          with_reducible rfl
         rotate_left
         ·simp only [Act.put, List.setIfInBounds_toArray, List.set_cons_zero, List.set_cons_succ, i64_w, i32_w]
          rfl
         refine pure_ (i := 15) (N := some 88) (v := ?_) (a' := ?_) #[true, true, true, true, true, true, true, true, true, true, true, true, true, true, true, true, false, false, false, false, false, false, false, false, false, false, false, false, false, false, false] rfl rfl (any_of HT_.out (by kernel_rfl)) (fun _ _ _ h => h) (Or.inl ⟨by rfl, ?_⟩) ?_ ?_
         rotate_left
         ·intro w'
          go_simp
          with_reducible rfl
         rotate_left
         ·simp only [Act.put, List.setIfInBounds_toArray, List.set_cons_zero, List.set_cons_succ, i64_w, i32_w]
          rfl
         refine pure_ (i := 16) (N := some 89) (v := (.int .i64 4)) (a' := ?_) #[true, true, true, true, true, true, true, true, true, true, true, true, true, true, true, true, true, false, false, false, false, false, false, false, false, false, false, false, false, false, false] rfl rfl (any_of HT_.out (by kernel_rfl)) (fun _ _ _ h => h) (Or.inl ⟨by rfl, ?_⟩) ?_ ?_
         ·intro w'
          go_simp
          first | done | rfl
         rotate_left
         ·simp only [Act.put, List.setIfInBounds_toArray, List.set_cons_zero, List.set_cons_succ, i64_w, i32_w]
          rfl
         refine pure_ (i := 17) (N := some 90) (v := ?_) (a' := ?_) #[true, true, true, true, true, true, true, true, true, true, true, true, true, true, true, true, true, true, false, false, false, false, false, false, false, false, false, false, false, false, false] rfl rfl (any_of HT_.out (by kernel_rfl)) (fun _ _ _ h => h) (Or.inl ⟨by rfl, ?_⟩) ?_ ?_
         rotate_left
         ·intro w'
          go_simp
          with_reducible rfl
         rotate_left
         ·simp only [Act.put, List.setIfInBounds_toArray, List.set_cons_zero, List.set_cons_succ, i64_w, i32_w]
          rfl
         refine pure_ (i := 18) (N := some 91) (v := (.int .i64 4)) (a' := ?_) #[true, true, true, true, true, true, true, true, true, true, true, true, true, true, true, true, true, true, true, false, false, false, false, false, false, false, false, false, false, false, false] rfl rfl (any_of HT_.out (by kernel_rfl)) (fun _ _ _ h => h) (Or.inl ⟨by rfl, ?_⟩) ?_ ?_
         ·intro w'
          go_simp
          first | done | rfl
         rotate_left
         ·simp only [Act.put, List.setIfInBounds_toArray, List.set_cons_zero, List.set_cons_succ, i64_w, i32_w]
          rfl
         refine pure_ (i := 19) (N := some 92) (v := (.int .i64 6)) (a' := ?_) #[true, true, true, true, true, true, true, true, true, true, true, true, true, true, true, true, true, true, true, true, false, false, false, false, false, false, false, false, false, false, false] rfl rfl (any_of HT_.out (by kernel_rfl)) (fun _ _ _ h => h) (Or.inl ⟨by rfl, ?_⟩) ?_ ?_
         ·intro w'
          go_simp
          first | done | rfl
         rotate_left
         ·simp only [Act.put, List.setIfInBounds_toArray, List.set_cons_zero, List.set_cons_succ, i64_w, i32_w]
          rfl
         refine pure_ (i := 20) (N := some 93) (v := ?_) (a' := ?_) #[true, true, true, true, true, true, true, true, true, true, true, true, true, true, true, true, true, true, true, true, true, false, false, false, false, false, false, false, false, false, false] rfl rfl (any_of HT_.out (by kernel_rfl)) (fun _ _ _ h => h) (Or.inl ⟨by rfl, ?_⟩) ?_ ?_
         rotate_left
         ·intro w'
          go_simp
          with_reducible rfl
         rotate_left
         ·simp only [Act.put, List.setIfInBounds_toArray, List.set_cons_zero, List.set_cons_succ, i64_w, i32_w]
          rfl
         refine pure_ (i := 21) (N := some 94) (v := ?_) (a' := ?_) #[true, true, true, true, true, true, true, true, true, true, true, true, true, true, true, true, true, true, true, true, true, true, false, false, false, false, false, false, false, false, false] rfl rfl (any_of HT_.out (by kernel_rfl)) (fun _ _ _ h => h) (Or.inl ⟨by rfl, ?_⟩) ?_ ?_
         rotate_left
         ·intro w'
          go_simp
          with_reducible rfl
         rotate_left
         ·simp only [Act.put, List.setIfInBounds_toArray, List.set_cons_zero, List.set_cons_succ, i64_w, i32_w]
          rfl
         refine pure_ (i := 22) (N := some 95) (v := ?_) (a' := ?_) #[true, true, true, true, true, true, true, true, true, true, true, true, true, true, true, true, true, true, true, true, true, true, true, false, false, false, false, false, false, false, false] rfl rfl (any_of HT_.out (by kernel_rfl)) (fun _ _ _ h => h) (Or.inl ⟨by rfl, ?_⟩) ?_ ?_
         rotate_left
         ·intro w'
          go_simp
          with_reducible rfl
         rotate_left
         ·simp only [Act.put, List.setIfInBounds_toArray, List.set_cons_zero, List.set_cons_succ, i64_w, i32_w]
          rfl
         refine pure_ (i := 23) (N := some 96) (v := (.int .i64 4)) (a' := ?_) #[true, true, true, true, true, true, true, true, true, true, true, true, true, true, true, true, true, true, true, true, true, true, true, true, false, false, false, false, false, false, false] rfl rfl (any_of HT_.out (by kernel_rfl)) (fun _ _ _ h => h) (Or.inl ⟨by rfl, ?_⟩) ?_ ?_
         ·intro w'
          go_simp
          first | done | rfl
         rotate_left
         ·simp only [Act.put, List.setIfInBounds_toArray, List.set_cons_zero, List.set_cons_succ, i64_w, i32_w]
          rfl
         refine pure_ (i := 24) (N := some 97) (v := (.int .i64 6)) (a' := ?_) #[true, true, true, true, true, true, true, true, true, true, true, true, true, true, true, true, true, true, true, true, true, true, true, true, true, false, false, false, false, false, false] rfl rfl (any_of HT_.out (by kernel_rfl)) (fun _ _ _ h => h) (Or.inl ⟨by rfl, ?_⟩) ?_ ?_
         ·intro w'
          go_simp
          first | done | rfl
         rotate_left
         ·simp only [Act.put, List.setIfInBounds_toArray, List.set_cons_zero, List.set_cons_succ, i64_w, i32_w]
          rfl
         refine pure_ (i := 25) (N := some 98) (v := ?_) (a' := ?_) #[true, true, true, true, true, true, true, true, true, true, true, true, true, true, true, true, true, true, true, true, true, true, true, true, true, true, false, false, false, false, false] rfl rfl (any_of HT_.out (by kernel_rfl)) (fun _ _ _ h => h) (Or.inl ⟨by rfl, ?_⟩) ?_ ?_
         rotate_left
         ·intro w'
          go_simp
          with_reducible rfl
         rotate_left
         ·simp only [Act.put, List.setIfInBounds_toArray, List.set_cons_zero, List.set_cons_succ, i64_w, i32_w]
          rfl
         refine pure_ (i := 26) (N := some 99) (v := ?_) (a' := ?_) #[true, true, true, true, true, true, true, true, true, true, true, true, true, true, true, true, true, true, true, true, true, true, true, true, true, true, true, false, false, false, false] rfl rfl (any_of HT_.out (by kernel_rfl)) (fun _ _ _ h => h) (Or.inl ⟨by rfl, ?_⟩) ?_ ?_
         rotate_left
         ·intro w'
          go_simp
          with_reducible rfl
         rotate_left
         ·simp only [Act.put, List.setIfInBounds_toArray, List.set_cons_zero, List.set_cons_succ, i64_w, i32_w]
          rfl
         have HPR := Aside0.mk HPT.out.1
         have hcl1 : 2 ≤ cl - 1 := by have := HCP2.out; omega
         have hcl3 : 2 ≤ cl - 4 := by have := HCP2.out; omega
         have hcl4 : 2 ≤ cl - 6 := by have := HCP2.out; omega
         have HSL := Aside0.mk (HPT0.out (cl - 1) (cl - 4) (cl - 6) hcl1 hcl3 hcl4)
         obtain ⟨W2, hW2⟩ : ∃ W2, W0.alloc (.cells #[.int .i64 (ruleOf 2 l).f0, .slice (some ⟨gl, 1, none⟩) 2 (cl - 1), .int .i64 (ruleOf 2 l).f2, .slice (some ⟨gl, 4, none⟩) 2 (cl - 4), .slice (some ⟨gl, 6, none⟩) 2 (cl - 6)] 40) = W2 := ⟨_, rfl⟩
         have hb2 : Below W0.heap.size W0 W2 := by rw [← hW2]; exact below_alloc (Below.refl _ _) _
         clear hcl1 hcl3 hcl4
         refine one_ (i := 27) (N := some 100) #[true, true, true, true, true, true, true, true, true, true, true, true, true, true, true, true, true, true, true, true, true, true, true, true, true, true, true, true, false, false, false] rfl rfl (one_of HT_.out (by kernel_rfl)) (by decide) (fun K hK => ?_)
         refine event_step (v := .slice (some ⟨W0.heap.size, 0, none⟩) 1 1) (w1 := W2) (by rfl) (by rw [← hW2]; exact exec_buildR rfl rfl) ?_
         obtain ⟨hnr, hbk2, hs2, xs, hO2, hP2⟩ := read_push HRD0.out hW2 HPR.out.1.symm HPR.out.2.1.symm HPR.out.2.2.symm HSL.out.1 HSL.out.2.1 HSL.out.2.2
         have HNR := Aside0.mk hnr
         have HBK2 := Aside0.mk hbk2
         have HS2 := Aside0.mk hs2
         have HO2 := Aside0.mk hO2
         have HP2 := Aside0.mk hP2
         refine hK.out _ _ ⟨pw_cell_below hb2 hHeld.1, pw_cell_below hb2 hHeld.2.1, pw_cell_below hb2 hHeld.2.2⟩ (fun hHeld2 => ?_)
         clear hK K hW2 hb2 hnr hbk2 hs2 hO2 hP2
         refine norm_ (a' := ?_) ?_ ?_
         rotate_left
         ·show Act.put _ (some 100) _ = _
          simp only [Act.put, List.setIfInBounds_toArray, List.set_cons_zero, List.set_cons_succ, i64_w, i32_w]
          rfl
         refine last_ (i := 28) (N := some 101) #[true, true, true, true, true, true, true, true, true, true, true, true, true, true, true, true, true, true, true, true, true, true, true, true, true, true, true, true, true, false, false] rfl rfl (one_of HT_.out (by kernel_rfl)) (by decide) (fun K hK => ?_)
         refine append_rule_ev (by rfl) rfl (by rfl) (by rfl) HO2.out HBK2.out cell5 (by have h1 := mapM_len HXS.out; have h2 := HQC.out; have h3 := HNR.out; have h4 : (qs.take (i - 1)).length ≤ i - 1 := List.length_take_le _ _; have h5 := HI2.out; omega) HS2.out ?_
         intro v7 w7 q1 q2
         obtain ⟨hbx, hRDn⟩ := HP2.out v7 w7 q1 q2
         obtain ⟨A7, c7, hv7⟩ := own_slice q1
         subst hv7
         have HRN := Aside0.mk hRDn
         obtain ⟨b0, b1, b2, b3⟩ := box_cells hbx
         have b4 := blk_frozen hbx 3
         clear q1 q2 hbx hRDn hHeld2
         refine hK.out _ _ ?_
         clear hK K
         refine norm_ (a' := ?_) ?_ ?_
         rotate_left
         ·show Act.put _ (some 101) _ = _
          simp only [Act.put, List.setIfInBounds_toArray, List.set_cons_zero, List.set_cons_succ, i64_w, i32_w]
          rfl
         refine pure_ (i := 29) (N := some 102) (v := ?_) (a' := ?_) #[true, true, true, true, true, true, true, true, true, true, true, true, true, true, true, true, true, true, true, true, true, true, true, true, true, true, true, true, true, true, false] rfl rfl (any_of HT_.out (by kernel_rfl)) (fun _ _ _ h => h) (Or.inl ⟨by rfl, ?_⟩) ?_ ?_
         rotate_left
         ·intro w'
          go_simp
          with_reducible rfl
         rotate_left
         ·simp only [Act.put, List.setIfInBounds_toArray, List.set_cons_zero, List.set_cons_succ, i64_w, i32_w]
          rfl
         refine last_ (i := 30) (N := none) #[true, true, true, true, true, true, true, true, true, true, true, true, true, true, true, true, true, true, true, true, true, true, true, true, true, true, true, true, true, true, true] rfl rfl (one_of HT_.out (by kernel_rfl)) (by decide) (fun K hK => ?_)
         refine skip_ (w1 := ?_) (by rfl) rfl ?_ ?_
         rotate_left
         ·go_simp
          rfl
         refine hK.out _ _ ?_
         clear hK K
         refine done_ (done_of HT_.out (by kernel_rfl)) ?_
         go_wp2
         go_roundg (qs.length + 1 - (i + 1))
         case measure => have := HG2.out; have := CI.out; omega
         case rel =>
          have := CI.out
          exact ⟨i + 1, _, _, by simp, ⟨by omega⟩, ⟨by omega⟩, ⟨HNX2.out⟩, HRN⟩
        ·subst hz1
         have h5 : l.length = 11 := h5
         go_wp2_with (go_at_call 27; (refine (refNumbers_calls p _ (by have := HPS.out; omega)).mono ?_; rw [HI3.out]; rintro e w6 ⟨v6, rfl, hno, hyes, hb⟩; have HRD := Aside0.mk (HRD.out.later hb); have HOW := Aside0.mk hyes; have HBL := Aside0.mk HRD.out.below; obtain ⟨z0, z1, z2, z3, f0, f1, f2, f3⟩ := zero_cells (res0 HBL.out); have how := hyes _ rfl; obtain ⟨gl, cl, eh, hgl, hrow⟩ := own_row how rfl HLN.out; rw [eh] at how; have HPT := Aside0.mk (rule_parts (k := 3) how h5 (by omega)); have HCP := own_cap how; rw [h5] at eh HCP; subst eh; have l0 := hrow.rdcell (j := 0) (by omega); have lk := hrow.rdcell (j := 3 + 1) (by omega); have HGL := Aside0.mk hgl; obtain ⟨b0, b1, b2, b3⟩ := box_cells HRD.out.box; clear hno hyes hb how hgl hrow))
         have c_0 : (1 ≤ cl) = True := eq_true (by omega)
         have c_1 : (4 ≤ cl) = True := eq_true (by omega)
         have c_2 : (5 ≤ cl) = True := eq_true (by omega)
         have c_3 : (8 ≤ cl) = True := eq_true (by omega)
         have c_4 : (11 ≤ cl) = True := eq_true (by omega)
         have m_0 : (cl = 1) = False := eq_false (by omega)
         have m_1 : (cl = 5) = False := eq_false (by omega)
         have m_2 : (cl = 8) = False := eq_false (by omega)
         have d_0 : ((1 : Int) ≤ (cl : Int)) = True := eq_true (by omega)
         have d_1 : ((4 : Int) ≤ (cl : Int)) = True := eq_true (by omega)
         have d_2 : ((5 : Int) ≤ (cl : Int)) = True := eq_true (by omega)
         have d_3 : ((8 : Int) ≤ (cl : Int)) = True := eq_true (by omega)
         have d_4 : ((11 : Int) ≤ (cl : Int)) = True := eq_true (by omega)
         have HCP2 := Aside0.mk HCP
         clear HCP
         refine start_ (n := 31) (S := fun w' => w'.cell? ⟨gb, 3, none⟩ = some (.slice Av nv cv) ∧ w'.cell? ⟨gl, 0, none⟩ = some (.int .i64 (rd l ((0 : Nat) : Int))) ∧ w'.cell? ⟨gl, 4, none⟩ = some (.int .i64 (rd l ((4 : Nat) : Int)))) (ds := [28, 30]) #[false, false, false, false, false, false, false, false, false, false, false, false, false, false, false, false, false, false, false, false, false, false, false, false, false, false, false, false, false, false, false] (by kernel_rfl) rfl rfl ⟨b3, l0, lk⟩ (fun hHeld => ?_); refine with_tabW reg13_15.tab reg13_15.bits (fun HT_ HW_ => ?_)
         have HRD0 := Aside0.mk (HRD.out.later (below_drew (Below.refl _ _)))
         have HPT0 : Aside0 (∀ c1 c3 c4, 3 ≤ c1 → 3 ≤ c3 → 3 ≤ c4 → SlAt w6.drew (some ⟨gl, 1, none⟩) c1 (ruleOf 3 l).f1 ∧ SlAt w6.drew (some ⟨gl, 3 + 2, none⟩) c3 (ruleOf 3 l).f3 ∧ SlAt w6.drew (some ⟨gl, 2 * 3 + 2, none⟩) c4 (ruleOf 3 l).f4) := ⟨fun c1 c3 c4 q1 q3 q4 => by have h := HPT.out.2 c1 c3 c4 q1 q3 q4; have hk := Keep3.of_below (below_drew (Below.refl w6.heap.size w6)); exact ⟨h.1.keep hk, h.2.1.keep hk, h.2.2.keep hk⟩⟩
         generalize w6.drew = W0 at HRD0 HPT0 hHeld ⊢
         clear b0 b1 b2 b3 l0 lk
         refine pure_ (i := 0) (N := some 73) (v := ?_) (a' := ?_) #[true, false, false, false, false, false, false, false, false, false, false, false, false, false, false, false, false, false, false, false, false, false, false, false, false, false, false, false, false, false, false] rfl rfl (any_of HT_.out (by kernel_rfl)) (fun _ _ _ h => h) (Or.inl ⟨by rfl, ?_⟩) ?_ ?_
         rotate_left
         ·intro w'
          go_simp
          with_reducible rfl
         rotate_left
         ·simp only [Act.put, List.setIfInBounds_toArray, List.set_cons_zero, List.set_cons_succ, i64_w, i32_w]
          rfl
         refine take_ (i := 1) (N := some 74) (v := ?_) (a' := ?_) #[true, true, false, false, false, false, false, false, false, false, false, false, false, false, false, false, false, false, false, false, false, false, false, false, false, false, false, false, false, false, false] rfl rfl (take_ofW HT_.out HW_.out (by kernel_rfl)) (fun _ _ _ h => h) (Or.inl ⟨by rfl, ?_⟩) hHeld ?_ ?_
         rotate_left
         ·rintro w' ⟨s0, s1, s2⟩
          go_simp
          with_reducible rfl
         rotate_left
         ·simp only [Act.put, List.setIfInBounds_toArray, List.set_cons_zero, List.set_cons_succ, i64_w, i32_w]
          rfl
         refine pure_ (i := 2) (N := some 75) (v := ?_) (a' := ?_) #[true, true, true, false, false, false, false, false, false, false, false, false, false, false, false, false, false, false, false, false, false, false, false, false, false, false, false, false, false, false, false] rfl rfl (any_of HT_.out (by kernel_rfl)) (fun _ _ _ h => h) (Or.inl ⟨by rfl, ?_⟩) ?_ ?_
         rotate_left
         ·intro w'
          go_simp
          with_reducible rfl
         rotate_left
         ·simp only [Act.put, List.setIfInBounds_toArray, List.set_cons_zero, List.set_cons_succ, i64_w, i32_w]
          rfl
         refine pure_ (i := 3) (N := some 76) (v := ?_) (a' := ?_) #[true, true, true, true, false, false, false, false, false, false, false, false, false, false, false, false, false, false, false, false, false, false, false, false, false, false, false, false, false, false, false] rfl rfl (any_of HT_.out (by kernel_rfl)) (fun _ _ _ h => h) (Or.inl ⟨by rfl, ?_⟩) ?_ ?_
         rotate_left
         ·intro w'
          go_simp
          with_reducible rfl
         rotate_left
         ·simp only [Act.put, List.setIfInBounds_toArray, List.set_cons_zero, List.set_cons_succ, i64_w, i32_w]
          rfl
         refine take_ (i := 4) (N := some 77) (v := ?_) (a' := ?_) #[true, true, true, true, true, false, false, false, false, false, false, false, false, false, false, false, false, false, false, false, false, false, false, false, false, false, false, false, false, false, false] rfl rfl (take_ofW HT_.out HW_.out (by kernel_rfl)) (fun _ _ _ h => h) (Or.inl ⟨by rfl, ?_⟩) hHeld ?_ ?_
         rotate_left
         ·rintro w' ⟨s0, s1, s2⟩
          go_simp
          with_reducible rfl
         rotate_left
         ·simp only [Act.put, List.setIfInBounds_toArray, List.set_cons_zero, List.set_cons_succ, i64_w, i32_w]
          rfl
         refine pure_ (i := 5) (N := some 78) (v := ?_) (a' := ?_) #[true, true, true, true, true, true, false, false, false, false, false, false, false, false, false, false, false, false, false, false, false, false, false, false, false, false, false, false, false, false, false] rfl rfl (any_of HT_.out (by kernel_rfl)) (fun _ _ _ h => h) (Or.inl ⟨by rfl, ?_⟩) ?_ ?_
         rotate_left
         ·intro w'
          go_simp
          with_reducible rfl
         rotate_left
         ·simp only [Act.put, List.setIfInBounds_toArray, List.set_cons_zero, List.set_cons_succ, i64_w, i32_w]
          rfl
         refine pure_ (i := 6) (N := some 79) (v := ?_) (a' := ?_) #[true, true, true, true, true, true, true, false, false, false, false, false, false, false, false, false, false, false, false, false, false, false, false, false, false, false, false, false, false, false, false] rfl rfl (any_of HT_.out (by kernel_rfl)) (fun _ _ _ h => h) (Or.inl ⟨by rfl, ?_⟩) ?_ ?_
         rotate_left
         ·intro w'
          go_simp
          with_reducible rfl
         rotate_left
         ·simp only [Act.put, List.setIfInBounds_toArray, List.set_cons_zero, List.set_cons_succ, i64_w, i32_w]
          rfl
         refine pure_ (i := 7) (N := some 80) (v := (.int .i64 4)) (a' := ?_) #[true, true, true, true, true, true, true, true, false, false, false, false, false, false, false, false, false, false, false, false, false, false, false, false, false, false, false, false, false, false, false] rfl rfl (any_of HT_.out (by kernel_rfl)) (fun _ _ _ h => h) (Or.inl ⟨by rfl, ?_⟩) ?_ ?_
         ·intro w'
          go_simp
          first | done | rfl
         rotate_left
         ·simp only [Act.put, List.setIfInBounds_toArray, List.set_cons_zero, List.set_cons_succ, i64_w, i32_w]
          rfl
         refine pure_ (i := 8) (N := some 81) (v := ?_) (a' := ?_) #[true, true, true, true, true, true, true, true, true, false, false, false, false, false, false, false, false, false, false, false, false, false, false, false, false, false, false, false, false, false, false] rfl rfl (any_of HT_.out (by kernel_rfl)) (fun _ _ _ h => h) (Or.inl ⟨by rfl, ?_⟩) ?_ ?_
         rotate_left
         ·intro w'
          go_simp
          with_reducible rfl
         rotate_left
         ·simp only [Act.put, List.setIfInBounds_toArray, List.set_cons_zero, List.set_cons_succ, i64_w, i32_w]
          rfl
         refine pure_ (i := 9) (N := some 82) (v := ?_) (a' := ?_) #[true, true, true, true, true, true, true, true, true, true, false, false, false, false, false, false, false, false, false, false, false, false, false, false, false, false, false, false, false, false, false] rfl rfl (any_of HT_.out (by kernel_rfl)) (fun _ _ _ h => h) (Or.inl ⟨by rfl, ?_⟩) ?_ ?_
         rotate_left
         ·intro w'
          go_simp
          with_reducible rfl
         rotate_left
         ·simp only [Act.put, List.setIfInBounds_toArray, List.set_cons_zero, List.set_cons_succ, i64_w, i32_w]
          rfl
         refine pure_ (i := 10) (N := some 83) (v := ?_) (a' := ?_) #[true, true, true, true, true, true, true, true, true, true, true, false, false, false, false, false, false, false, false, false, false, false, false, false, false, false, false, false, false, false, false] rfl rfl (any_of HT_.out (by kernel_rfl)) (fun _ _ _ h => h) (Or.inl ⟨by rfl, ?_⟩) ?_ ?_
         rotate_left
         ·intro w'
          go_simp
          with_reducible rfl
         rotate_left
         ·simp only [Act.put, List.setIfInBounds_toArray, List.set_cons_zero, List.set_cons_succ, i64_w, i32_w]
          rfl
         refine pure_ (i := 11) (N := some 84) (v := (.int .i64 4)) (a' := ?_) #[true, true, true, true, true, true, true, true, true, true, true, true, false, false, false, false, false, false, false, false, false, false, false, false, false, false, false, false, false, false, false] rfl rfl (any_of HT_.out (by kernel_rfl)) (fun _ _ _ h => h) (Or.inl ⟨by rfl, ?_⟩) ?_ ?_
         ·intro w'
          go_simp
          first | done | rfl
         rotate_left
         ·simp only [Act.put, List.setIfInBounds_toArray, List.set_cons_zero, List.set_cons_succ, i64_w, i32_w]
          rfl
         refine pure_ (i := 12) (N := some 85) (v := ?_) (a' := ?_) #[true, true, true, true, true, true, true, true, true, true, true, true, true, false, false, false, false, false, false, false, false, false, false, false, false, false, false, false, false, false, false] rfl rfl (any_of HT_.out (by kernel_rfl)) (fun _ _ _ h => h) (Or.inl ⟨by rfl, ?_⟩) ?_ ?_
         rotate_left
         ·intro w'
          go_simp
          with_reducible rfl
         rotate_left
         ·simp only [Act.put, List.setIfInBounds_toArray, List.set_cons_zero, List.set_cons_succ, i64_w, i32_w]
          rfl
         refine take_ (i := 13) (N := some 86) (v := ?_) (a' := ?_) #[true, true, true, true, true, true, true, true, true, true, true, true, true, true, false, false, false, false, false, false, false, false, false, false, false, false, false, false, false, false, false] rfl rfl (take_ofW HT_.out HW_.out (by kernel_rfl)) (fun _ _ _ h => h) (Or.inl ⟨by rfl, ?_⟩) hHeld ?_ ?_
         rotate_left
         ·rintro w' ⟨s0, s1, s2⟩
          go_simp
          with_reducible rfl
         rotate_left
         ·simp only [Act.put, List.setIfInBounds_toArray, List.set_cons_zero, List.set_cons_succ, i64_w, i32_w]
          rfl
         refine pure_ (i := 14) (N := some 87) (v := ?_) (a' := ?_) #[true, true, true, true, true, true, true, true, true, true, true, true, true, true, true, false, false, false, false, false, false, false, false, false, false, false, false, false, false, false, false] rfl rfl (any_of HT_.out (by kernel_rfl)) (fun _ _ _ h => h) (Or.inl ⟨by rfl, ?_⟩) ?_ ?_
         rotate_left
         ·intro w'
          go_simp
          with_reducible rfl
         rotate_left
         ·simp only [Act.put, List.setIfInBounds_toArray, List.set_cons_zero, List.set_cons_succ, i64_w, i32_w]
          rfl
         refine pure_ (i := 15) (N := some 88) (v := ?_) (a' := ?_) #[true, true, true, true, true, true, true, true, true, true, true, true, true, true, true, true, false, false, false, false, false, false, false, false, false, false, false, false, false, false, false] rfl rfl (any_of HT_.out (by kernel_rfl)) (fun _ _ _ h => h) (Or.inl ⟨by rfl, ?_⟩) ?_ ?_
         rotate_left
         ·intro w'
          go_simp
          with_reducible rfl
         rotate_left
         ·simp only [Act.put, List.setIfInBounds_toArray, List.set_cons_zero, List.set_cons_succ, i64_w, i32_w]
          rfl
         refine pure_ (i := 16) (N := some 89) (v := (.int .i64 5)) (a' := ?_) #[true, true, true, true, true, true, true, true, true, true, true, true, true, true, true, true, true, false, false, false, false, false, false, false, false, false, false, false, false, false, false] rfl rfl (any_of HT_.out (by kernel_rfl)) (fun _ _ _ h => h) (Or.inl ⟨by rfl, ?_⟩) ?_ ?_
         ·intro w'
          go_simp
          first | done | rfl
         rotate_left
         ·simp only [Act.put, List.setIfInBounds_toArray, List.set_cons_zero, List.set_cons_succ, i64_w, i32_w]
          rfl
         refine pure_ (i := 17) (N := some 90) (v := ?_) (a' := ?_) #[true, true, true, true, true, true, true, true, true, true, true, true, true, true, true, true, true, true, false, false, false, false, false, false, false, false, false, false, false, false, false] rfl rfl (any_of HT_.out (by kernel_rfl)) (fun _ _ _ h => h) (Or.inl ⟨by rfl, ?_⟩) ?_ ?_
         rotate_left
         ·intro w'
          go_simp
          with_reducible rfl
         rotate_left
         ·simp only [Act.put, List.setIfInBounds_toArray, List.set_cons_zero, List.set_cons_succ, i64_w, i32_w]
          rfl
         refine pure_ (i := 18) (N := some 91) (v := (.int .i64 6)) (a' := ?_) #[true, true, true, true, true, true, true, true, true, true, true, true, true, true, true, true, true, true, true, false, false, false, false, false, false, false, false, false, false, false, false] rfl rfl (any_of HT_.out (by kernel_rfl)) (fun _ _ _ h => h) (Or.inl ⟨by rfl, ?_⟩) ?_ ?_
         ·intro w'
          go_simp
          first | done | rfl
         rotate_left
         ·simp only [Act.put, List.setIfInBounds_toArray, List.set_cons_zero, List.set_cons_succ, i64_w, i32_w]
          rfl
         refine pure_ (i := 19) (N := some 92) (v := (.int .i64 8)) (a' := ?_) #[true, true, true, true, true, true, true, true, true, true, true, true, true, true, true, true, true, true, true, true, false, false, false, false, false, false, false, false, false, false, false] rfl rfl (any_of HT_.out (by kernel_rfl)) (fun _ _ _ h => h) (Or.inl ⟨by rfl, ?_⟩) ?_ ?_
         ·intro w'
          go_simp
          first | done | rfl
         rotate_left
         ·simp only [Act.put, List.setIfInBounds_toArray, List.set_cons_zero, List.set_cons_succ, i64_w, i32_w]
          rfl
         refine pure_ (i := 20) (N := some 93) (v := ?_) (a' := ?_) #[true, true, true, true, true, true, true, true, true, true, true, true, true, true, true, true, true, true, true, true, true, false, false, false, false, false, false, false, false, false, false] rfl rfl (any_of HT_.out (by kernel_rfl)) (fun _ _ _ h => h) (Or.inl ⟨by rfl, ?_⟩) ?_ ?_
         rotate_left
         ·intro w'
          go_simp
          with_reducible rfl
         rotate_left
         ·simp only [Act.put, List.setIfInBounds_toArray, List.set_cons_zero, List.set_cons_succ, i64_w, i32_w]
          rfl
         refine pure_ (i := 21) (N := some 94) (v := ?_) (a' := ?_) #[true, true, true, true, true, true, true, true, true, true, true, true, true, true, true, true, true, true, true, true, true, true, false, false, false, false, false, false, false, false, false] rfl rfl (any_of HT_.out (by kernel_rfl)) (fun _ _ _ h => h) (Or.inl ⟨by rfl, ?_⟩) ?_ ?_
         rotate_left
         ·intro w'
          go_simp
          with_reducible rfl
         rotate_left
         ·simp only [Act.put, List.setIfInBounds_toArray, List.set_cons_zero, List.set_cons_succ, i64_w, i32_w]
          rfl
         refine pure_ (i := 22) (N := some 95) (v := ?_) (a' := ?_) #[true, true, true, true, true, true, true, true, true, true, true, true, true, true, true, true, true, true, true, true, true, true, true, false, false, false, false, false, false, false, false] rfl rfl (any_of HT_.out (by kernel_rfl)) (fun _ _ _ h => h) (Or.inl ⟨by rfl, ?_⟩) ?_ ?_
         rotate_left
         ·intro w'
          go_simp
          with_reducible rfl
         rotate_left
         ·simp only [Act.put, List.setIfInBounds_toArray, List.set_cons_zero, List.set_cons_succ, i64_w, i32_w]
          rfl
         refine pure_ (i := 23) (N := some 96) (v := (.int .i64 6)) (a' := ?_) #[true, true, true, true, true, true, true, true, true, true, true, true, true, true, true, true, true, true, true, true, true, true, true, true, false, false, false, false, false, false, false] rfl rfl (any_of HT_.out (by kernel_rfl)) (fun _ _ _ h => h) (Or.inl ⟨by rfl, ?_⟩) ?_ ?_
         ·intro w'
          go_simp
          first | done | rfl
         rotate_left
         ·simp only [Act.put, List.setIfInBounds_toArray, List.set_cons_zero, List.set_cons_succ, i64_w, i32_w]
          rfl
         refine pure_ (i := 24) (N := some 97) (v := (.int .i64 8)) (a' := ?_) #[true, true, true, true, true, true, true, true, true, true, true, true, true, true, true, true, true, true, true, true, true, true, true, true, true, false, false, false, false, false, false] rfl rfl (any_of HT_.out (by kernel_rfl)) (fun _ _ _ h => h) (Or.inl ⟨by rfl, ?_⟩) ?_ ?_
         ·intro w'
          go_simp
          first | done | rfl
         rotate_left
         ·simp only [Act.put, List.setIfInBounds_toArray, List.set_cons_zero, List.set_cons_succ, i64_w, i32_w]
          rfl
         refine pure_ (i := 25) (N := some 98) (v := ?_) (a' := ?_) #[true, true, true, true, true, true, true, true, true, true, true, true, true, true, true, true, true, true, true, true, true, true, true, true, true, true, false, false, false, false, false] rfl rfl (any_of HT_.out (by kernel_rfl)) (fun _ _ _ h => h) (Or.inl ⟨by rfl, ?_⟩) ?_ ?_
         rotate_left
         ·intro w'
          go_simp
          with_reducible rfl
         rotate_left
         ·simp only [Act.put, List.setIfInBounds_toArray, List.set_cons_zero, List.set_cons_succ, i64_w, i32_w]
          rfl
         refine pure_ (i := 26) (N := some 99) (v := ?_) (a' := ?_) #[true, true, true, true, true, true, true, true, true, true, true, true, true, true, true, true, true, true, true, true, true, true, true, true, true, true, true, false, false, false, false] rfl rfl (any_of HT_.out (by kernel_rfl)) (fun _ _ _ h => h) (Or.inl ⟨by rfl, ?_⟩) ?_ ?_
         rotate_left
         ·intro w'
          go_simp
          with_reducible rfl
         rotate_left
         ·simp only [Act.put, List.setIfInBounds_toArray, List.set_cons_zero, List.set_cons_succ, i64_w, i32_w]
          rfl
         have HPR := Aside0.mk HPT.out.1
         have hcl1 : 3 ≤ cl - 1 := by have := HCP2.out; omega
         have hcl3 : 3 ≤ cl - 5 := by have := HCP2.out; omega
         have hcl4 : 3 ≤ cl - 8 := by have := HCP2.out; omega
         have HSL := Aside0.mk (HPT0.out (cl - 1) (cl - 5) (cl - 8) hcl1 hcl3 hcl4)
         obtain ⟨W2, hW2⟩ : ∃ W2, W0.alloc (.cells #[.int .i64 (ruleOf 3 l).f0, .slice (some ⟨gl, 1, none⟩) 3 (cl - 1), .int .i64 (ruleOf 3 l).f2, .slice (some ⟨gl, 5, none⟩) 3 (cl - 5), .slice (some ⟨gl, 8, none⟩) 3 (cl - 8)] 40) = W2 := ⟨_, rfl⟩
         have hb2 : Below W0.heap.size W0 W2 := by rw [← hW2]; exact below_alloc (Below.refl _ _) _
         clear hcl1 hcl3 hcl4
         refine one_ (i := 27) (N := some 100) #[true, true, true, true, true, true, true, true, true, true, true, true, true, true, true, true, true, true, true, true, true, true, true, true, true, true, true, true, false, false, false] rfl rfl (one_of HT_.out (by kernel_rfl)) (by decide) (fun K hK => ?_)
         refine event_step (v := .slice (some ⟨W0.heap.size, 0, none⟩) 1 1) (w1 := W2) (by rfl) (by rw [← hW2]; exact exec_buildR rfl rfl) ?_
         obtain ⟨hnr, hbk2, hs2, xs, hO2, hP2⟩ := read_push HRD0.out hW2 HPR.out.1.symm HPR.out.2.1.symm HPR.out.2.2.symm HSL.out.1 HSL.out.2.1 HSL.out.2.2
         have HNR := Aside0.mk hnr
         have HBK2 := Aside0.mk hbk2
         have HS2 := Aside0.mk hs2
         have HO2 := Aside0.mk hO2
         have HP2 := Aside0.mk hP2
         refine hK.out _ _ ⟨pw_cell_below hb2 hHeld.1, pw_cell_below hb2 hHeld.2.1, pw_cell_below hb2 hHeld.2.2⟩ (fun hHeld2 => ?_)
         clear hK K hW2 hb2 hnr hbk2 hs2 hO2 hP2
         refine norm_ (a' := ?_) ?_ ?_
         rotate_left
         ·show Act.put _ (some 100) _ = _
          simp only [Act.put, List.setIfInBounds_toArray, List.set_cons_zero, List.set_cons_succ, i64_w, i32_w]
          rfl
         refine last_ (i := 28) (N := some 101) #[true, true, true, true, true, true, true, true, true, true, true, true, true, true, true, true, true, true, true, true, true, true, true, true, true, true, true, true, true, false, false] rfl rfl (one_of HT_.out (by kernel_rfl)) (by decide) (fun K hK => ?_)
         refine append_rule_ev (by rfl) rfl (by rfl) (by rfl) HO2.out HBK2.out cell5 (by have h1 := mapM_len HXS.out; have h2 := HQC.out; have h3 := HNR.out; have h4 : (qs.take (i - 1)).length ≤ i - 1 := List.length_take_le _ _; have h5 := HI2.out; omega) HS2.out ?_
         intro v7 w7 q1 q2
         obtain ⟨hbx, hRDn⟩ := HP2.out v7 w7 q1 q2
         obtain ⟨A7, c7, hv7⟩ := own_slice q1
         subst hv7
         have HRN := Aside0.mk hRDn
         obtain ⟨b0, b1, b2, b3⟩ := box_cells hbx
         have b4 := blk_frozen hbx 3
         clear q1 q2 hbx hRDn hHeld2
         refine hK.out _ _ ?_
         clear hK K
         refine norm_ (a' := ?_) ?_ ?_
         rotate_left
         ·show Act.put _ (some 101) _ = _
          simp only [Act.put, List.setIfInBounds_toArray, List.set_cons_zero, List.set_cons_succ, i64_w, i32_w]
          rfl
         refine pure_ (i := 29) (N := some 102) (v := ?_) (a' := ?_) #[true, true, true, true, true, true, true, true, true, true, true, true, true, true, true, true, true, true, true, true, true, true, true, true, true, true, true, true, true, true, false] rfl rfl (any_of HT_.out (by kernel_rfl)) (fun _ _ _ h => h) (Or.inl ⟨by rfl, ?_⟩) ?_ ?_
         rotate_left
         ·intro w'
          go_simp
          with_reducible rfl
         rotate_left
         ·simp only [Act.put, List.setIfInBounds_toArray, List.set_cons_zero, List.set_cons_succ, i64_w, i32_w]
          rfl
         refine last_ (i := 30) (N := none) #[true, true, true, true, true, true, true, true, true, true, true, true, true, true, true, true, true, true, true, true, true, true, true, true, true, true, true, true, true, true, true] rfl rfl (one_of HT_.out (by kernel_rfl)) (by decide) (fun K hK => ?_)
         refine skip_ (w1 := ?_) (by rfl) rfl ?_ ?_
         rotate_left
         ·go_simp
          rfl
         refine hK.out _ _ ?_
         clear hK K
         refine done_ (done_of HT_.out (by kernel_rfl)) ?_
         go_wp2
         go_roundg (qs.length + 1 - (i + 1))
         case measure => have := HG2.out; have := CI.out; omega
         case rel =>
          have := CI.out
          exact ⟨i + 1, _, _, by simp, ⟨by omega⟩, ⟨by omega⟩, ⟨HNX2.out⟩, HRN⟩
       ·have HPQ := Aside0.mk (HST.out (by unfold ruleR; rw [hl]; simp only [Option.bind_some]; rw [if_neg h5]))
        clear hl
        rcases HZC.out with hz1 | hz1 | hz1
        ·subst hz1
         have h5 : l.length ≠ 5 := h5
         have e1 : ((l.length : Int) != 5) = true := bne_iff_ne.2 (by omega)
         have e2 : ((l.length : Int) == 5) = false := beq_eq_false_iff_ne.2 (by omega)
         have e3 : (l.length == 5) = false := beq_eq_false_iff_ne.2 h5
         have e4 : (l.length != 5) = true := bne_iff_ne.2 h5
         have e5 : decide ((l.length : Int) = 5) = false := decide_eq_false (by omega)
         have e6 : decide (l.length = 5) = false := decide_eq_false h5
         clear h5
         go_wp2_with (go_at_call 27; (refine (refNumbers_calls p _ (by have := HPS.out; omega)).mono ?_; rw [HI3.out]; rintro e w6 ⟨v6, rfl, hno, hyes, hb⟩; have HRD := Aside0.mk (HRD.out.later hb); have HOW := Aside0.mk hyes; have HBL := Aside0.mk HRD.out.below; obtain ⟨z0, z1, z2, z3, f0, f1, f2, f3⟩ := zero_cells (res0 HBL.out); obtain ⟨Ah, ch2, eh⟩ := own_slice (hyes _ rfl); subst eh; clear hno hyes hb))
         refine bodyPost_ret (v := .tuple #[zeroM, .bool false]) (by simp [results, Tryd.results13, go_sem, z0, z1, z2, z3, zeroM]) rfl ?_
         exact ⟨below_set (below_set (below_set (below_set (below_step HB1.out HBL.out) (Nat.le_refl _)) (Nat.le_refl _)) (Nat.le_refl _)) (Nat.le_refl _), by rw [HPQ.out]⟩
        ·subst hz1
         have h5 : l.length ≠ 8 := h5
         have e1 : ((l.length : Int) != 8) = true := bne_iff_ne.2 (by omega)
         have e2 : ((l.length : Int) == 8) = false := beq_eq_false_iff_ne.2 (by omega)
         have e3 : (l.length == 8) = false := beq_eq_false_iff_ne.2 h5
         have e4 : (l.length != 8) = true := bne_iff_ne.2 h5
         have e5 : decide ((l.length : Int) = 8) = false := decide_eq_false (by omega)
         have e6 : decide (l.length = 8) = false := decide_eq_false h5
         clear h5
         go_wp2_with (go_at_call 27; (refine (refNumbers_calls p _ (by have := HPS.out; omega)).mono ?_; rw [HI3.out]; rintro e w6 ⟨v6, rfl, hno, hyes, hb⟩; have HRD := Aside0.mk (HRD.out.later hb); have HOW := Aside0.mk hyes; have HBL := Aside0.mk HRD.out.below; obtain ⟨z0, z1, z2, z3, f0, f1, f2, f3⟩ := zero_cells (res0 HBL.out); obtain ⟨Ah, ch2, eh⟩ := own_slice (hyes _ rfl); subst eh; clear hno hyes hb))
         refine bodyPost_ret (v := .tuple #[zeroM, .bool false]) (by simp [results, Tryd.results13, go_sem, z0, z1, z2, z3, zeroM]) rfl ?_
         exact ⟨below_set (below_set (below_set (below_set (below_step HB1.out HBL.out) (Nat.le_refl _)) (Nat.le_refl _)) (Nat.le_refl _)) (Nat.le_refl _), by rw [HPQ.out]⟩
        ·subst hz1
         have h5 : l.length ≠ 11 := h5
         have e1 : ((l.length : Int) != 11) = true := bne_iff_ne.2 (by omega)
         have e2 : ((l.length : Int) == 11) = false := beq_eq_false_iff_ne.2 (by omega)
         have e3 : (l.length == 11) = false := beq_eq_false_iff_ne.2 h5
         have e4 : (l.length != 11) = true := bne_iff_ne.2 h5
         have e5 : decide ((l.length : Int) = 11) = false := decide_eq_false (by omega)
         have e6 : decide (l.length = 11) = false := decide_eq_false h5
         clear h5
         go_wp2_with (go_at_call 27; (refine (refNumbers_calls p _ (by have := HPS.out; omega)).mono ?_; rw [HI3.out]; rintro e w6 ⟨v6, rfl, hno, hyes, hb⟩; have HRD := Aside0.mk (HRD.out.later hb); have HOW := Aside0.mk hyes; have HBL := Aside0.mk HRD.out.below; obtain ⟨z0, z1, z2, z3, f0, f1, f2, f3⟩ := zero_cells (res0 HBL.out); obtain ⟨Ah, ch2, eh⟩ := own_slice (hyes _ rfl); subst eh; clear hno hyes hb))
         refine bodyPost_ret (v := .tuple #[zeroM, .bool false]) (by simp [results, Tryd.results13, go_sem, z0, z1, z2, z3, zeroM]) rfl ?_
         exact ⟨below_set (below_set (below_set (below_set (below_step HB1.out HBL.out) (Nat.le_refl _)) (Nat.le_refl _)) (Nat.le_refl _)) (Nat.le_refl _), by rw [HPQ.out]⟩
     ·have cib : decide ((i : Int) < (qs.length : Int) + 1) = false := decide_eq_false (by omega)
      have cib2 : decide (i < qs.length + 1) = false := decide_eq_false ci
      have HM : Aside0 (qs.mapM (ruleR numsQ z.toNat) = some rs) := ⟨by rw [← HXS.out, List.take_of_length_le (by omega)]⟩
      have HLQ : Aside0 (rs.length ≤ 2000) := ⟨by have := mapM_len HM.out; have := HQC.out; omega⟩
      have HRW : Aside0 (∀ r ∈ rs, r.f1.length ≤ 100 ∧ r.f3.length ≤ 100 ∧ r.f4.length ≤ 100) := ⟨fun r hr => by have h := rows_small HM.out r hr; have := HZ.out; omega⟩
      clear ci
      obtain ⟨A, n, c, hvA⟩ := HRD.out.rows.slice
      subst hvA
      obtain ⟨en, hnc, hC⟩ := HRD.out.rows.C
      subst en
      have HCC := Aside0.mk hC
      have HNC := Aside0.mk hnc
      have HPD := Aside0.mk (parseP_done (s := s) HI.out HZ.out HM.out)
      obtain ⟨b0, b1, b2, b3⟩ := box_cells HRD.out.box
      clear hC hnc
      cases hv : validM x y z rs with
      | false =>
       have HPQ := Aside0.mk (HPD.out.trans (if_neg (fun hh => by rw [hv] at hh; cases hh.1)))
       have HV := Aside0.mk hv
       have HBL := Aside0.mk HRD.out.below
       clear hv
       go_wp2_with (go_at_call 8; refine (refValid_calls x y z A c rs _ HCC.out HNC.out HLQ.out HRW.out).mono ?_; rw [HV.out]; rintro e w8 ⟨rfl, hb⟩; have HRD := Aside0.mk (HRD.out.later hb); have HBL := Aside0.mk (below_step HBL.out hb); obtain ⟨b0, b1, b2, b3⟩ := box_cells HRD.out.box; obtain ⟨z0, z1, z2, z3, f0, f1, f2, f3⟩ := zero_cells (res0 HBL.out); clear hb)
       refine bodyPost_ret (v := .tuple #[zeroM, .bool false]) (by simp [results, Tryd.results13, go_sem, z0, z1, z2, z3, zeroM]) rfl ?_
       exact ⟨below_set (below_set (below_set (below_set (below_step HB1.out HBL.out) (Nat.le_refl _)) (Nat.le_refl _)) (Nat.le_refl _)) (Nat.le_refl _), by rw [HPQ.out]⟩
      | true =>
       have HV := Aside0.mk hv
       have HVN := Aside0.mk (valid_neat hv)
       have HNN := Aside0.mk (valid_nn hv)
       clear hv
       have HBL := Aside0.mk HRD.out.below
       obtain ⟨TX, hTX⟩ : ∃ TX : ByteArray, (⟨(writeT x y z rs).toArray⟩ : ByteArray) = TX := ⟨_, rfl⟩
       have HTX := Aside0.mk hTX
       have HTI : Aside0 (TX.toList = s.toList ↔ writeT x y z rs = s.data.toList) := ⟨by rw [← hTX, ByteArray.toList_eq, ByteArray.toList_eq]⟩
       clear hTX
       by_cases ht : writeT x y z rs = s.data.toList
       ·have HPQ := Aside0.mk (HPD.out.trans (if_pos ⟨HV.out, ht⟩))
        have t1 : (TX.toList == s.toList) = true := beq_iff_eq.2 (HTI.out.2 ht)
        have t2 : (TX.toList != s.toList) = false := bne_eq_false_iff_eq.2 (HTI.out.2 ht)
        clear ht
        go_wp2_with (first
         | (go_at_call 8; refine (refValid_calls x y z A c rs _ HCC.out HNC.out HLQ.out HRW.out).mono ?_; rw [HV.out]; rintro e w8 ⟨rfl, hb⟩; have HRD := Aside0.mk (HRD.out.later hb); have HBL := Aside0.mk (below_step HBL.out hb); obtain ⟨b0, b1, b2, b3⟩ := box_cells HRD.out.box; obtain ⟨z0, z1, z2, z3, f0, f1, f2, f3⟩ := zero_cells (res0 HBL.out); clear hb)
         | (go_at_call 9; refine (refText_calls x y z A c rs _ HRD.out.rows.C.2.2 HVN.out.2.1 HNN.out.1 HNN.out.2 (Nat.le_trans HLQ.out (by decide))).mono ?_; rw [HTX.out]; rintro e w9 ⟨rfl, hb⟩; have HRD := Aside0.mk (HRD.out.later hb); have HBL := Aside0.mk (below_step HBL.out hb); obtain ⟨b0, b1, b2, b3⟩ := box_cells HRD.out.box; obtain ⟨z0, z1, z2, z3, f0, f1, f2, f3⟩ := zero_cells (res0 HBL.out); clear hb))
        obtain ⟨WR, hWR, ⟨g0, g1, g2, g3⟩, hbR, hCR⟩ := done_out (x := x) (y := y) (z := z) (res0 HBL.out) (below_step HB1.out HBL.out) HRD.out.rows
        rw [hWR]
        refine bodyPost_ret (v := .tuple #[.agg #[.int .i64 x, .int .i64 y, .int .i64 z, .slice A rs.length c], .bool true]) (by simp [results, Tryd.results13, go_sem, g0, g1, g2, g3]) rfl ?_
        refine ⟨hbR, ?_⟩
        rw [HPQ.out]
        exact ⟨A, c, rfl, HNC.out, _, hCR⟩
       ·have HPQ := Aside0.mk (HPD.out.trans (if_neg (fun hh => ht hh.2)))
        have t1 : (TX.toList == s.toList) = false := beq_eq_false_iff_ne.2 (fun e => ht (HTI.out.1 e))
        have t2 : (TX.toList != s.toList) = true := bne_iff_ne.2 (fun e => ht (HTI.out.1 e))
        clear ht
        go_wp2_with (first
         | (go_at_call 8; refine (refValid_calls x y z A c rs _ HCC.out HNC.out HLQ.out HRW.out).mono ?_; rw [HV.out]; rintro e w8 ⟨rfl, hb⟩; have HRD := Aside0.mk (HRD.out.later hb); have HBL := Aside0.mk (below_step HBL.out hb); obtain ⟨b0, b1, b2, b3⟩ := box_cells HRD.out.box; obtain ⟨z0, z1, z2, z3, f0, f1, f2, f3⟩ := zero_cells (res0 HBL.out); clear hb)
         | (go_at_call 9; refine (refText_calls x y z A c rs _ HRD.out.rows.C.2.2 HVN.out.2.1 HNN.out.1 HNN.out.2 (Nat.le_trans HLQ.out (by decide))).mono ?_; rw [HTX.out]; rintro e w9 ⟨rfl, hb⟩; have HRD := Aside0.mk (HRD.out.later hb); have HBL := Aside0.mk (below_step HBL.out hb); obtain ⟨b0, b1, b2, b3⟩ := box_cells HRD.out.box; obtain ⟨z0, z1, z2, z3, f0, f1, f2, f3⟩ := zero_cells (res0 HBL.out); clear hb))
        refine bodyPost_ret (v := .tuple #[zeroM, .bool false]) (by simp [results, Tryd.results13, go_sem, z0, z1, z2, z3, zeroM]) rfl ?_
        exact ⟨below_set (below_set (below_set (below_set (below_step HB1.out HBL.out) (Nat.le_refl _)) (Nat.le_refl _)) (Nat.le_refl _)) (Nat.le_refl _), by rw [HPQ.out]⟩
   ·have HPQ := Aside0.mk (HPB3.out hz)
    have HBL := Aside0.mk HRD.out.below
    obtain ⟨z0, z1, z2, z3, f0, f1, f2, f3⟩ := zero_cells (res0 HBL.out)
    by_cases c1 : z < 1
    ·have e1 : decide (z < 1) = true := decide_eq_true c1
     clear hz c1
     go_wp2
     refine bodyPost_ret (v := .tuple #[zeroM, .bool false]) (by simp [results, Tryd.results13, go_sem, z0, z1, z2, z3, zeroM]) rfl ?_
     exact ⟨below_set (below_set (below_set (below_set (below_step HB1.out HBL.out) (Nat.le_refl _)) (Nat.le_refl _)) (Nat.le_refl _)) (Nat.le_refl _), by rw [HPQ.out]⟩
    ·have e1 : decide (z < 1) = false := decide_eq_false c1
     have e2 : decide (3 < z) = true := decide_eq_true (by omega)
     clear hz c1
     go_wp2
     refine bodyPost_ret (v := .tuple #[zeroM, .bool false]) (by simp [results, Tryd.results13, go_sem, z0, z1, z2, z3, zeroM]) rfl ?_
     exact ⟨below_set (below_set (below_set (below_set (below_step HB1.out HBL.out) (Nat.le_refl _)) (Nat.le_refl _)) (Nat.le_refl _)) (Nat.le_refl _), by rw [HPQ.out]⟩
  ·rw [hq, parseP_head_bad hi (fun hh => h3 hh.1)]
   have e1 : ((h.length : Int) != 3) = true := bne_iff_ne.2 (by omega)
   have e2 : ((h.length : Int) == 3) = false := beq_eq_false_iff_ne.2 (by omega)
   have e3 : (h.length == 3) = false := beq_eq_false_iff_ne.2 h3
   have e4 : (h.length != 3) = true := bne_iff_ne.2 h3
   have e5 : decide ((h.length : Int) = 3) = false := decide_eq_false (by omega)
   have e6 : decide (h.length = 3) = false := decide_eq_false h3
   clear hq hi h3
   go_enter Tryd.func13, Tryd.ntmps13
   go_wp2_with (first | (go_at_call 26; (rw [HW1.out]; refine (refSplit_calls s W1 (by have := HS.out; omega)).mono ?_; rw [HCQ.out]; rintro e w2 ⟨P, cur, cp, rfl, hP, hcur, hcp, hPb, hb⟩; have HP := Aside0.mk hP; have HCUR := Aside0.mk hcur; have HPB := Aside0.mk hPb; have HBL := Aside0.mk hb; have hp0 := cur_at hP hcur (i := 0) (by simp); clear hP hcur hcp hPb hb)) | (go_at_call 27; (refine (refNumbers_calls q0 _ (by have := HQL.out q0 List.mem_cons_self; omega)).mono ?_; rw [HI.out]; rintro e w3 ⟨v3, rfl, hno, hyes, hb⟩; have HP3 := Aside0.mk ((hb.block _ (Array.getElem?_eq_some_iff.1 HP.out).1).trans HP.out); have HOW := Aside0.mk hyes; have HBM := HBL; have HBL := Aside0.mk (below_step HBL.out hb); obtain ⟨z0, z1, z2, z3, f0, f1, f2, f3⟩ := zero_cells (res0 HBL.out); obtain ⟨Ah, ch, eh⟩ := own_slice (hyes _ rfl); subst eh; clear hno hyes hb)))
   refine bodyPost_ret (v := .tuple #[zeroM, .bool false]) (by simp [results, Tryd.results13, go_sem, z0, z1, z2, z3, zeroM]) rfl ?_
   exact ⟨below_set (below_set (below_set (below_set (below_step HB1.out HBL.out) (Nat.le_refl _)) (Nat.le_refl _)) (Nat.le_refl _)) (Nat.le_refl _), rfl⟩
end Go.Proofs.YtfoodfhhdbaieaaDoor.Giv
