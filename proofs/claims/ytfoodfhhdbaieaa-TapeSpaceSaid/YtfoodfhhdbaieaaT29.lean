/- The law TapeSpace walked. -/
import Derived.Test.YtfoodfhhdbaieaaT25
import Derived.Test.YtfoodfhhdbaieaaT26
import Derived.Test.YtfoodfhhdbaieaaT27
import Derived.Test.YtfoodfhhdbaieaaT28
import Derived.Test.YtfoodfhhdbaieaaKax5
namespace Go.Proofs.Ytfoodfhhdbaieaa.Giv
set_option linter.unusedSimpArgs false
set_option linter.unusedVariables false
open Go.RowKit Go.Shelf Go.Proofs.YtfoodfhhdbaieaaW.PrintWords Go.Proofs.YtfoodfhhdbaieaaW.PrintLast Go.Proofs.YtfoodfhhdbaieaaW.PrintMore
open Go.Proofs.Ytfoodfhhdbaieaa.Ka (S54 k54 z54 rd_T54 at_T54 k54_open k54_mk k54_openM k54_mkM rd_L1 at_L1 info3 info25 info54)

theorem tape_cells {w : World} {k : Nat} {a b c d e : Value} {t : TypeId} (h : w.heap[k]? = some (.cells #[a, b, c, d, e] t (0, 0))) : w.cell? ⟨k, 0, none⟩ = some a ∧ w.cell? ⟨k, 1, none⟩ = some b ∧ w.cell? ⟨k, 2, none⟩ = some c ∧ w.cell? ⟨k, 3, none⟩ = some d ∧ w.cell? ⟨k, 4, none⟩ = some e := by
  simp [World.cell?, h]
theorem cheap_C (most : Int) (w : World) : Calls Try.prog 14 #[.int .i64 most] w fun e w' => e = .returned (.bool (decide (most ≤ 20000))) ∧ Below w.heap.size w w' := by
  refine (Ka.commodatumlaw20_cheap.calls most _ w rfl).mono ?_
  rintro e w' ⟨rfl, ⟨n, rfl⟩⟩
  exact ⟨rfl, pw_below_drewN (Below.refl _ _) n⟩
def runS_ (a0 a1 a2 : Int) (l : List S54) (inp : List Int) (most : Int) (x y : Option Addr × Nat × Nat) : Value := .agg #[.int .i64 (runQ a0 a1 a2 l inp most).1.s, .slice x.1 x.2.1 x.2.2, .slice y.1 y.2.1 y.2.2]
def runV (a0 a1 a2 : Int) (l : List S54) (inp : List Int) (most : Int) (x y : Option Addr × Nat × Nat) : Value := .tuple #[runS_ a0 a1 a2 l inp most x y, .int .i64 (runQ a0 a1 a2 l inp most).2.1, .int .i64 (runQ a0 a1 a2 l inp most).2.2]
-- THE TABLES
def regS3.T : Bool × List (List Nat × List Nat) := (true, [([], []), ([0], [0]), ([1], [1]), ([], []), ([], []), ([4], [4]), ([3, 5, 2], [3, 5]), ([], []), ([2, 6, 7, 6], [2, 6, 7]), ([8], [8]), ([9], [9]), ([9], [9]), ([9], [9]), ([], []), ([13, 10, 8, 0, 1, 2, 3, 4, 5, 6, 7, 8, 9, 10, 13], [10, 13]), ([11, 14, 0, 1, 2, 3, 4, 5, 6, 7, 8, 9, 10, 11, 13, 14], [11]), ([12, 15, 0, 1, 2, 3, 4, 5, 6, 7, 8, 9, 10, 11, 12, 13, 14, 15], [12])])
def regS3.B : List Nat := [0, 1, 3, 0, 0, 16, 63, 0, 255, 511, 1023, 1023, 1023, 0, 10239, 28671, 65535]
theorem regS3.tab : rtab .any (opsOf Try.f4 3) = regS3.T := by kernel_rfl
theorem regS3.bits : waitsOk regS3.T.2 regS3.B = true := by kernel_rfl
def regS3.bits_ (p b c d e : Bool) : Array Bool := #[true, true, p, b, true, true, c, true, d, false, false, false, false, e, false, false, false]
theorem regS3.steps : ∀ p b c d e, (e = false → false = false) → (d = true → e = true) → goodL p b c d = true → cntL p b c d e < 5 → readyT regS3.T.2 (regS3.bits_ p b c d e).toList ≠ [] ∧ ∀ i ∈ readyT regS3.T.2 (regS3.bits_ p b c d e).toList, i ∉ ([14] : List Nat) ∧ LawStep regS3.bits_ 8 13 p b c d e i := by decide +kernel
def regS4.T : Bool × List (List Nat × List Nat) := (true, [([], []), ([0], [0]), ([1], [1]), ([], []), ([], []), ([4], [4]), ([3, 5, 2], [3, 5]), ([], []), ([2, 6, 7, 6], [2, 6, 7]), ([8], [8]), ([9], [9]), ([9], [9]), ([10, 8, 0, 1, 2, 3, 4, 5, 6, 7, 8, 9, 10], [10]), ([11, 12, 0, 1, 2, 3, 4, 5, 6, 7, 8, 9, 10, 11, 12], [11])])
def regS4.B : List Nat := [0, 1, 3, 0, 0, 16, 63, 0, 255, 511, 1023, 1023, 2047, 8191]
theorem regS4.tab : rtab .any (opsOf Try.f4 4) = regS4.T := by kernel_rfl
theorem regS4.bits : waitsOk regS4.T.2 regS4.B = true := by kernel_rfl
def regS4.bits_ (p b c d e : Bool) : Array Bool := #[true, true, p, b, true, true, c, true, d, false, false, false, false, false]
theorem regS4.steps : ∀ p b c d e, (e = false → true = false) → (d = true → e = true) → goodL p b c d = true → cntL p b c d e < 5 → readyT regS4.T.2 (regS4.bits_ p b c d e).toList ≠ [] ∧ ∀ i ∈ readyT regS4.T.2 (regS4.bits_ p b c d e).toList, i ∉ ([] : List Nat) ∧ LawStep regS4.bits_ 8 13 p b c d e i := by decide +kernel
def regS5.T : Bool × List (List Nat × List Nat) := (true, [([], []), ([0], [0]), ([1], [1]), ([], []), ([], []), ([4], [4]), ([3, 5, 2], [3, 5]), ([], []), ([7], [7]), ([2, 6, 8, 6], [2, 6, 8]), ([9], [9]), ([10], [10]), ([10], [10]), ([11, 9, 0, 1, 2, 3, 4, 5, 6, 7, 8, 9, 10, 11], [11]), ([12, 13, 0, 1, 2, 3, 4, 5, 6, 7, 8, 9, 10, 11, 12, 13], [12])])
def regS5.B : List Nat := [0, 1, 3, 0, 0, 16, 63, 0, 128, 511, 1023, 2047, 2047, 4095, 16383]
theorem regS5.tab : rtab .any (opsOf Try.f4 5) = regS5.T := by kernel_rfl
theorem regS5.bits : waitsOk regS5.T.2 regS5.B = true := by kernel_rfl
def regS5.bits_ (p b c d e : Bool) : Array Bool := #[true, true, p, b, true, true, c, true, true, d, false, false, false, false, false]
theorem regS5.steps : ∀ p b c d e, (e = false → true = false) → (d = true → e = true) → goodL p b c d = true → cntL p b c d e < 5 → readyT regS5.T.2 (regS5.bits_ p b c d e).toList ≠ [] ∧ ∀ i ∈ readyT regS5.T.2 (regS5.bits_ p b c d e).toList, i ∉ ([] : List Nat) ∧ LawStep regS5.bits_ 9 13 p b c d e i := by decide +kernel
-- END TABLES
set_option maxHeartbeats 4000000 in
set_option maxRecDepth 100000 in
theorem tapeSpace_walk (a0 a1 a2 : Int) (A : Option Addr) (c : Nat) (l : List S54) (A5 : Option Addr) (c5 : Nat) (inp : List Int) (most : Int) (w : World) (hr : Kd.C k54 w A l.length l) (hlc : l.length ≤ c) (h5 : Kd.C (Kd.int .i64) w A5 inp.length inp) (hlc5 : inp.length ≤ c5) (hf : ∀ r ∈ l, Fits r) :
    Calls Try.prog 4 #[.agg #[.int .i64 a0, .int .i64 a1, .int .i64 a2, .slice A l.length c, .slice A5 inp.length c5], .int .i64 most] w fun e w' => e = .returned (.bool true) ∧ Below w.heap.size w w' := by
  obtain ⟨kb, rb, hkb, hsmall⟩ := big_total a0 a1 a2 (inp := inp) hf
  obtain ⟨W, hW⟩ : ∃ W, w.alloc (Obj.cells #[.int .i64 a0, .int .i64 a1, .int .i64 a2, .slice A l.length c, .slice A5 inp.length c5] 27) = W := ⟨_, rfl⟩
  have hb0 : Below w.heap.size w W := by rw [← hW]; exact (Below.refl _ _).alloc (Nat.le_refl _) _
  have hz : w.heap.size < W.heap.size := by rw [← hW]; simp
  have hbx : W.heap[w.heap.size]? = some (.cells #[.int .i64 a0, .int .i64 a1, .int .i64 a2, .slice A l.length c, .slice A5 inp.length c5] 27 (0, 0)) := by rw [← hW]; exact heap_alloc_new _ _
  obtain ⟨k0, k1, k2, k3, k4⟩ := tape_cells hbx
  have HBIG := Aside0.mk (Ka.commodatumlaw20_big.calls kb a0 a1 a2 A c l A5 c5 inp rb W (Kd.C_below hr hb0) hlc (Kd.C_below h5 hb0) hlc5 hkb)
  have HW := Aside0.mk hW
  have HB0 := Aside0.mk hb0
  have HBX := Aside0.mk hbx
  have HR := Aside0.mk (Kd.C_below hr hb0)
  have H5 := Aside0.mk (Kd.C_below h5 hb0)
  have HL5 := Aside0.mk hlc5
  have HSM := Aside0.mk hsmall
  by_cases hA : rb = true ∨ most < 1 ∨ ¬ (most ≤ 20000)
  · clear hr hlc h5 hlc5 hf hkb hsmall hW hb0 hbx HR H5 HL5 HSM
    have hA' : (rb = true) ∨ (rb = false ∧ most < 1) ∨ (rb = false ∧ ¬ most < 1 ∧ ¬ most ≤ 20000) := by
      cases rb <;> simp at hA ⊢
      omega
    clear hA
    have HB := HB0
    rcases hA' with rfl | ⟨rfl, h1⟩ | ⟨rfl, h1, h2⟩
    · go_enter Try.func4, Try.ntmps4
      go_wp2_with (first
        | (go_at_call 9; rw [HW.out]; refine HBIG.out.mono ?_; rintro e w1 ⟨rfl, hb⟩; have n0 := Aside0.mk (below_step HB.out hb); clear HB hb; have HB := n0; clear n0)
        | (go_at_call 10; refine (awake_walk _).mono ?_; rintro e w2 ⟨rfl, hb⟩; have n0 := Aside0.mk (below_step HB.out hb); clear HB hb; have HB := n0; clear n0))
      go_ret
      exact ⟨rfl, HB.out⟩
    · have d1 : decide (most < 1) = true := decide_eq_true h1
      clear h1
      go_enter Try.func4, Try.ntmps4
      go_wp2_with (first
        | (go_at_call 9; rw [HW.out]; refine HBIG.out.mono ?_; rintro e w1 ⟨rfl, hb⟩; have n0 := Aside0.mk (below_step HB.out hb); clear HB hb; have HB := n0; clear n0)
        | (go_at_call 10; refine (awake_walk _).mono ?_; rintro e w2 ⟨rfl, hb⟩; have n0 := Aside0.mk (below_step HB.out hb); clear HB hb; have HB := n0; clear n0))
      go_ret
      exact ⟨rfl, HB.out⟩
    · have d1 : decide (most < 1) = false := decide_eq_false h1
      have d2 : decide (most ≤ 20000) = false := decide_eq_false h2
      clear h1 h2
      go_enter Try.func4, Try.ntmps4
      go_wp2_with (first
        | (go_at_call 9; rw [HW.out]; refine HBIG.out.mono ?_; rintro e w1 ⟨rfl, hb⟩; have n0 := Aside0.mk (below_step HB.out hb); clear HB hb; have HB := n0; clear n0)
        | (go_at_call 14; refine (cheap_C most _).mono ?_; rintro e w3 ⟨rfl, hb⟩; have n0 := Aside0.mk (below_step HB.out hb); clear HB hb; have HB := n0; clear n0)
        | (go_at_call 10; refine (awake_walk _).mono ?_; rintro e w2 ⟨rfl, hb⟩; have n0 := Aside0.mk (below_step HB.out hb); clear HB hb; have HB := n0; clear n0))
      go_ret
      exact ⟨rfl, HB.out⟩
  · obtain ⟨rfl, h1, h2⟩ : rb = false ∧ 1 ≤ most ∧ most ≤ 20000 := by
      cases rb <;> simp at hA ⊢
      omega
    have d1 : decide (most < 1) = false := decide_eq_false (by omega)
    have d2 : decide (most ≤ 20000) = true := decide_eq_true h2
    have H1 := Aside0.mk h1
    have H2 := Aside0.mk h2
    obtain ⟨s1, s2, s3⟩ := hsmall rfl
    have HS1 := Aside0.mk s1
    have HS2 := Aside0.mk s2
    have HS3 := Aside0.mk s3
    clear hr hlc h5 hlc5 hf hkb hsmall hW hb0 hbx hA HSM s1 s2 s3 h1 h2
    have HB := Aside0.mk (Below.refl W.heap.size W)
    go_enter Try.func4, Try.ntmps4
    go_wp2_with (first
      | (go_at_call 9; rw [HW.out]; refine HBIG.out.mono ?_; rintro e w1 ⟨rfl, hb⟩; have n0 := Aside0.mk (below_step HB.out hb); clear HB hb; have HB := n0; clear n0)
      | (go_at_call 14; refine (cheap_C most _).mono ?_; rintro e w3 ⟨rfl, hb⟩; have n0 := Aside0.mk (below_step HB.out hb); clear HB hb; have HB := n0; clear n0))
    -- REGION
    obtain ⟨hcc3, _⟩ := bcell HB.out
    refine start_ (n := 17) (S := fun w' => w'.cell? ⟨w.heap.size, 0, none⟩ = some (.int .i64 a0) ∧ w'.cell? ⟨w.heap.size, 1, none⟩ = some (.int .i64 a1) ∧ w'.cell? ⟨w.heap.size, 2, none⟩ = some (.int .i64 a2) ∧ w'.cell? ⟨w.heap.size, 3, none⟩ = some (.slice A l.length c) ∧ w'.cell? ⟨w.heap.size, 4, none⟩ = some (.slice A5 inp.length c5)) (ds := [14]) #[false, false, false, false, false, false, false, false, false, false, false, false, false, false, false, false, false] (by kernel_rfl) rfl rfl ⟨(hcc3 _ 0 hz).trans k0, (hcc3 _ 1 hz).trans k1, (hcc3 _ 2 hz).trans k2, (hcc3 _ 3 hz).trans k3, (hcc3 _ 4 hz).trans k4⟩ (fun hHeld => ?_); refine with_tabW regS3.tab regS3.bits (fun HT_ HW_ => ?_)
    clear hcc3
    have HBD := Aside0.mk (below_drew1 HB.out)
    clear HB
    have HB := HBD
    clear HBD
    generalize w3.drew = X3 at HB hHeld ⊢
    refine pure_ (i := 0) (N := some 25) (v := ?_) (a' := ?_) #[true, false, false, false, false, false, false, false, false, false, false, false, false, false, false, false, false] rfl rfl (any_of HT_.out (by kernel_rfl)) (fun _ _ _ h => h) (Or.inl ⟨by rfl, ?_⟩) ?_ ?_
    rotate_left
    · intro w'
      go_simp
      with_reducible rfl
    rotate_left
    · simp only [Act.put, List.setIfInBounds_toArray, List.set_cons_zero, List.set_cons_succ, i64_w, i32_w]
      rfl
    refine pure_ (i := 4) (N := some 29) (v := ?_) (a' := ?_) #[true, false, false, false, true, false, false, false, false, false, false, false, false, false, false, false, false] rfl rfl (any_of HT_.out (by kernel_rfl)) (fun _ _ _ h => h) (Or.inl ⟨by rfl, ?_⟩) ?_ ?_
    rotate_left
    · intro w'
      go_simp
      with_reducible rfl
    rotate_left
    · simp only [Act.put, List.setIfInBounds_toArray, List.set_cons_zero, List.set_cons_succ, i64_w, i32_w]
      rfl
    refine pure_ (i := 7) (N := some 32) (v := ?_) (a' := ?_) #[true, false, false, false, true, false, false, true, false, false, false, false, false, false, false, false, false] rfl rfl (any_of HT_.out (by kernel_rfl)) (fun _ _ _ h => h) (Or.inl ⟨by rfl, ?_⟩) ?_ ?_
    rotate_left
    · intro w'
      go_simp
      with_reducible rfl
    rotate_left
    · simp only [Act.put, List.setIfInBounds_toArray, List.set_cons_zero, List.set_cons_succ, i64_w, i32_w]
      rfl
    refine take_ (i := 1) (N := some 26) (v := ?_) (a' := ?_) #[true, true, false, false, true, false, false, true, false, false, false, false, false, false, false, false, false] rfl rfl (take_ofW HT_.out HW_.out (by kernel_rfl)) (fun _ _ _ h => h) (Or.inl ⟨by rfl, ?_⟩) hHeld ?_ ?_
    rotate_left
    · rintro w' ⟨s0, s1, s2, s3, s4⟩
      go_simp
      with_reducible rfl
    rotate_left
    · simp only [Act.put, List.setIfInBounds_toArray, List.set_cons_zero, List.set_cons_succ, i64_w, i32_w]
      rfl
    refine take_ (i := 5) (N := some 30) (v := ?_) (a' := ?_) #[true, true, false, false, true, true, false, true, false, false, false, false, false, false, false, false, false] rfl rfl (take_ofW HT_.out HW_.out (by kernel_rfl)) (fun _ _ _ h => h) (Or.inl ⟨by rfl, ?_⟩) hHeld ?_ ?_
    rotate_left
    · rintro w' ⟨s0, s1, s2, s3, s4⟩
      go_simp
      with_reducible rfl
    rotate_left
    · simp only [Act.put, List.setIfInBounds_toArray, List.set_cons_zero, List.set_cons_succ, i64_w, i32_w]
      rfl
    refine join_ (σ := Value × Value × Value × (Option Addr × Nat × Nat) × (Option Addr × Nat × Nat) × Nat) 3 #[true, true, true, true, true, true, true, true, true, true, true, true, true, true, false, false, false] (fun s_ => [(27, s_.1), (28, s_.2.1), (31, s_.2.2.1), (33, runV a0 a1 a2 l inp most s_.2.2.2.1 s_.2.2.2.2.1), (5, .pointer (some ⟨s_.2.2.2.2.2, 0, none⟩)), (24, runV a0 a1 a2 l inp most s_.2.2.2.1 s_.2.2.2.2.1), (34, runS_ a0 a1 a2 l inp most s_.2.2.2.1 s_.2.2.2.2.1), (35, .int .i64 (runQ a0 a1 a2 l inp most).2.1), (36, .int .i64 (runQ a0 a1 a2 l inp most).2.2)]) (fun s_ w' => Below X3.heap.size X3 w' ∧ w'.heap[s_.2.2.2.2.2]? = some (.cells #[.int .i64 0, .slice none 0 0, .slice none 0 0] 32 (0, 0)) ∧ X3.heap.size ≤ s_.2.2.2.2.2) ?_ ?_
    rotate_left
    · intro hCont
      refine law_inv (bits := regS3.bits_) (i8 := 8) (i13 := 13) (s2 := 27) (s3 := 28) (s6 := 31) (s8 := 33) (s13 := 5) ⟨by decide, by decide, by decide, by decide, by decide, by decide, by decide, by decide, by decide, by decide, by decide, by decide, by decide⟩ (a0 := a0) (a1 := a1) (a2 := a2) (rs := l) (inp := inp) (R := fun v => ∃ B1 n1 d1 B2 n2 d2, v = .tuple #[.agg #[.int .i64 (runQ a0 a1 a2 l inp most).1.s, .slice B1 n1 d1, .slice B2 n2 d2], .int .i64 (runQ a0 a1 a2 l inp most).2.1, .int .i64 (runQ a0 a1 a2 l inp most).2.2]) (E := fun v w' => ∃ g, v = .pointer (some ⟨g, 0, none⟩) ∧ w'.heap[g]? = some (.cells #[.int .i64 0, .slice none 0 0, .slice none 0 0] 32 (0, 0)) ∧ X3.heap.size ≤ g) (e0 := false) X3 (fun p b c_ d e h1 h2 h3 h4 => by rw [ready_eq, HT_.out]; exact regS3.steps p b c_ d e h1 h2 h3 h4) (o2 := _) (o3 := _) (o6 := _) (o8 := _) (o13 := _) rfl rfl rfl rfl (fun _ => ⟨rfl, rfl, rfl, fun a_ w_ hb_ => ⟨_, _, exec_alloc32 rfl, (Below.refl _ _).alloc (Nat.le_refl _) _, w_.heap.size, rfl, heap_alloc_new _ _, hb_.size⟩⟩) (sM := 26) (sX := 30) (sN := 32) (F := 19) ⟨rfl, rfl, rfl⟩ ⟨rfl, rfl, rfl⟩ ⟨rfl, rfl, rfl⟩ ⟨rfl, rfl, rfl⟩ Try.func19 (by kernel_rfl) rfl _ rfl (A := A) (A5 := A5) (c := c) (c5 := c5) (m := most) (by decide) (by decide) (by decide) rfl rfl rfl (Kd.C_below HR.out HB.out) (Kd.C_below H5.out HB.out) (by have := HS1.out; omega) (fun r hr => by have := HS3.out r hr; omega) (by have := HS2.out; omega) (fun w_ B cb D cd q1 q2 q3 => (Run_walk a0 a1 a2 B cb l D cd inp most w_ q1 q2 q3).mono (by rintro e_ w' ⟨v, rfl, ⟨B1, d1, B2, d2, rfl, _⟩, hb⟩; exact ⟨_, rfl, ⟨_, _, _, _, _, _, rfl⟩, hb⟩)) (by rintro v w_ w' ⟨g, rfl, hg, hge⟩ hb; exact ⟨g, rfl, (hb.block g (Array.getElem?_eq_some_iff.1 hg).1).trans hg, hge⟩) (fun w' hb => ⟨pw_cell_below hb hHeld.1, pw_cell_below hb hHeld.2.1, pw_cell_below hb hHeld.2.2.1, pw_cell_below hb hHeld.2.2.2.1, pw_cell_below hb hHeld.2.2.2.2⟩) (by simp only [put5, Act.put, List.setIfInBounds_toArray, List.set_cons_zero, List.set_cons_succ]; rfl) (fun h => by cases h) 7 5 rfl ?_ (fun h => ?_)
      · skip
        rintro x2 x3 x6 v x13 w4 hb4 ⟨B1, n1, d1, B2, n2, d2, rfl⟩ ⟨g, rfl, hg, hge⟩
        refine norm_ (a' := ?_) ?_ ?_
        rotate_left
        · simp only [put5, Act.put, List.setIfInBounds_toArray, List.set_cons_zero, List.set_cons_succ]
          rfl
        refine pure_ (i := 9) (N := some 24) (v := ?_) (a' := ?_) #[true, true, true, true, true, true, true, true, true, true, false, false, false, true, false, false, false] rfl rfl (any_of HT_.out (by kernel_rfl)) (fun _ _ _ h => h) (Or.inl ⟨by rfl, ?_⟩) ?_ ?_
        rotate_left
        · intro w'
          go_simp
          with_reducible rfl
        rotate_left
        · simp only [Act.put, List.setIfInBounds_toArray, List.set_cons_zero, List.set_cons_succ, i64_w, i32_w]
          rfl
        refine pure_ (i := 10) (N := some 34) (v := ?_) (a' := ?_) #[true, true, true, true, true, true, true, true, true, true, true, false, false, true, false, false, false] rfl rfl (any_of HT_.out (by kernel_rfl)) (fun _ _ _ h => h) (Or.inl ⟨by rfl, ?_⟩) ?_ ?_
        rotate_left
        · intro w'
          go_simp
          with_reducible rfl
        rotate_left
        · simp only [Act.put, List.setIfInBounds_toArray, List.set_cons_zero, List.set_cons_succ, i64_w, i32_w]
          rfl
        refine pure_ (i := 11) (N := some 35) (v := ?_) (a' := ?_) #[true, true, true, true, true, true, true, true, true, true, true, true, false, true, false, false, false] rfl rfl (any_of HT_.out (by kernel_rfl)) (fun _ _ _ h => h) (Or.inl ⟨by rfl, ?_⟩) ?_ ?_
        rotate_left
        · intro w'
          go_simp
          with_reducible rfl
        rotate_left
        · simp only [Act.put, List.setIfInBounds_toArray, List.set_cons_zero, List.set_cons_succ, i64_w, i32_w]
          rfl
        refine pure_ (i := 12) (N := some 36) (v := ?_) (a' := ?_) #[true, true, true, true, true, true, true, true, true, true, true, true, true, true, false, false, false] rfl rfl (any_of HT_.out (by kernel_rfl)) (fun _ _ _ h => h) (Or.inl ⟨by rfl, ?_⟩) ?_ ?_
        rotate_left
        · intro w'
          go_simp
          with_reducible rfl
        rotate_left
        · simp only [Act.put, List.setIfInBounds_toArray, List.set_cons_zero, List.set_cons_succ, i64_w, i32_w]
          rfl
        exact norm_ (by simp only [putAll, Act.put, List.setIfInBounds_toArray, List.set_cons_zero, List.set_cons_succ]; rfl) (hCont (x2, x3, x6, (B1, n1, d1), (B2, n2, d2), g) _ ⟨hb4, hg, hge⟩)
      · skip
        clear h
        rintro x2 x3 x6 v x13 w4 hb4 ⟨B1, n1, d1, B2, n2, d2, rfl⟩
        refine norm_ (a' := ?_) ?_ ?_
        rotate_left
        · simp only [put5, Act.put, List.setIfInBounds_toArray, List.set_cons_zero, List.set_cons_succ]
          rfl
        refine pure_ (i := 9) (N := some 24) (v := ?_) (a' := ?_) #[true, true, true, true, true, true, true, true, true, true, false, false, false, false, false, false, false] rfl rfl (any_of HT_.out (by kernel_rfl)) (fun _ _ _ h => h) (Or.inl ⟨by rfl, ?_⟩) ?_ ?_
        rotate_left
        · intro w'
          go_simp
          with_reducible rfl
        rotate_left
        · simp only [Act.put, List.setIfInBounds_toArray, List.set_cons_zero, List.set_cons_succ, i64_w, i32_w]
          rfl
        refine pure_ (i := 10) (N := some 34) (v := ?_) (a' := ?_) #[true, true, true, true, true, true, true, true, true, true, true, false, false, false, false, false, false] rfl rfl (any_of HT_.out (by kernel_rfl)) (fun _ _ _ h => h) (Or.inl ⟨by rfl, ?_⟩) ?_ ?_
        rotate_left
        · intro w'
          go_simp
          with_reducible rfl
        rotate_left
        · simp only [Act.put, List.setIfInBounds_toArray, List.set_cons_zero, List.set_cons_succ, i64_w, i32_w]
          rfl
        refine pure_ (i := 11) (N := some 35) (v := ?_) (a' := ?_) #[true, true, true, true, true, true, true, true, true, true, true, true, false, false, false, false, false] rfl rfl (any_of HT_.out (by kernel_rfl)) (fun _ _ _ h => h) (Or.inl ⟨by rfl, ?_⟩) ?_ ?_
        rotate_left
        · intro w'
          go_simp
          with_reducible rfl
        rotate_left
        · simp only [Act.put, List.setIfInBounds_toArray, List.set_cons_zero, List.set_cons_succ, i64_w, i32_w]
          rfl
        refine pure_ (i := 12) (N := some 36) (v := ?_) (a' := ?_) #[true, true, true, true, true, true, true, true, true, true, true, true, true, false, false, false, false] rfl rfl (any_of HT_.out (by kernel_rfl)) (fun _ _ _ h => h) (Or.inl ⟨by rfl, ?_⟩) ?_ ?_
        rotate_left
        · intro w'
          go_simp
          with_reducible rfl
        rotate_left
        · simp only [Act.put, List.setIfInBounds_toArray, List.set_cons_zero, List.set_cons_succ, i64_w, i32_w]
          rfl
        refine one_ (i := 13) (N := some 5) #[true, true, true, true, true, true, true, true, true, true, true, true, true, true, false, false, false] rfl rfl (one_of HT_.out (by kernel_rfl)) (by decide) (fun K hK => ?_)
        refine event_step (by rfl) (exec_alloc32 rfl) ?_
        have hb5 : Below X3.heap.size X3 (w4.alloc (.cells #[.int .i64 0, .slice none 0 0, .slice none 0 0] 32)) := hb4.alloc hb4.size _
        have hg := heap_alloc_new w4 (.cells #[.int .i64 0, .slice none 0 0, .slice none 0 0] 32)
        refine hK.out _ _ ⟨pw_cell_below hb5 hHeld.1, pw_cell_below hb5 hHeld.2.1, pw_cell_below hb5 hHeld.2.2.1, pw_cell_below hb5 hHeld.2.2.2.1, pw_cell_below hb5 hHeld.2.2.2.2⟩ (fun hHeld2 => ?_)
        clear hK K
        exact norm_ (by simp only [putAll, Act.put, List.setIfInBounds_toArray, List.set_cons_zero, List.set_cons_succ]; rfl) (hCont (x2, x3, x6, (B1, n1, d1), (B2, n2, d2), w4.heap.size) _ ⟨hb5, hg, hb4.size⟩)
    rintro ⟨x2, x3, x6, ⟨B1, n1, d1⟩, ⟨B2, n2, d2⟩, g⟩ w4 ⟨hb4, hg, hge⟩
    skip
    have HB4 := Aside0.mk (below_step HB.out hb4)
    have HGE : Aside0 (W.heap.size ≤ g) := ⟨Nat.le_trans HB.out.size hge⟩
    have HGG := Aside0.mk hg
    clear hb4 hg hge HB
    refine norm_ (a' := ?_) ?_ ?_
    rotate_left
    · simp only [put5, putAll, runV, runS_, Act.put, List.setIfInBounds_toArray, List.set_cons_zero, List.set_cons_succ]
      rfl
    refine last_ (i := 14) (N := none) #[true, true, true, true, true, true, true, true, true, true, true, true, true, true, true, false, false] rfl rfl (one_of HT_.out (by kernel_rfl)) (by decide) (fun K hK => ?_)
    obtain ⟨y0, y1, y2⟩ := trio_cells HGG.out
    have z0 := run_frozen HGG.out 0
    have z1 := run_frozen HGG.out 1
    have z2 := run_frozen HGG.out 2
    refine skip_ (w1 := ?_) (by rfl) rfl ?_ ?_
    rotate_left
    · go_simp
      rfl
    refine hK.out _ _ ?_
    clear hK K
    clear y0 y1 y2 z0 z1 z2
    refine pure_ (i := 15) (N := some 6) (v := ?_) (a' := ?_) #[true, true, true, true, true, true, true, true, true, true, true, true, true, true, true, true, false] rfl rfl (any_of HT_.out (by kernel_rfl)) (fun _ _ _ h => h) (Or.inl ⟨by rfl, ?_⟩) ?_ ?_
    rotate_left
    · intro w'
      go_simp
      with_reducible rfl
    rotate_left
    · simp only [Act.put, List.setIfInBounds_toArray, List.set_cons_zero, List.set_cons_succ, i64_w, i32_w]
      rfl
    refine pure_ (i := 16) (N := some 7) (v := ?_) (a' := ?_) #[true, true, true, true, true, true, true, true, true, true, true, true, true, true, true, true, true] rfl rfl (any_of HT_.out (by kernel_rfl)) (fun _ _ _ h => h) (Or.inl ⟨by rfl, ?_⟩) ?_ ?_
    rotate_left
    · intro w'
      go_simp
      with_reducible rfl
    rotate_left
    · simp only [Act.put, List.setIfInBounds_toArray, List.set_cons_zero, List.set_cons_succ, i64_w, i32_w]
      rfl
    refine done_ (done_of HT_.out (by kernel_rfl)) ?_
    obtain ⟨V3, hV3⟩ : ∃ V3, ((w4.setCell ⟨g, 0, none⟩ (.int .i64 (runQ a0 a1 a2 l inp most).1.s)).setCell ⟨g, 1, none⟩ (.slice B1 n1 d1)).setCell ⟨g, 2, none⟩ (.slice B2 n2 d2) = V3 := ⟨_, rfl⟩
    have HB : Aside0 (Below W.heap.size W V3) := ⟨by rw [← hV3]; exact ((HB4.out.setCell (p := ⟨g, 0, none⟩) HGE.out _).setCell (p := ⟨g, 1, none⟩) HGE.out _).setCell (p := ⟨g, 2, none⟩) HGE.out _⟩
    try rw [hV3]
    clear HB4 HGE HGG hV3
    try go_wp2_with fail
    obtain ⟨hcc4, _⟩ := bcell HB.out
    refine start_ (n := 14) (S := fun w' => w'.cell? ⟨w.heap.size, 0, none⟩ = some (.int .i64 a0) ∧ w'.cell? ⟨w.heap.size, 1, none⟩ = some (.int .i64 a1) ∧ w'.cell? ⟨w.heap.size, 2, none⟩ = some (.int .i64 a2) ∧ w'.cell? ⟨w.heap.size, 3, none⟩ = some (.slice A l.length c) ∧ w'.cell? ⟨w.heap.size, 4, none⟩ = some (.slice A5 inp.length c5)) (ds := []) #[false, false, false, false, false, false, false, false, false, false, false, false, false, false] (by kernel_rfl) rfl rfl ⟨(hcc4 _ 0 hz).trans k0, (hcc4 _ 1 hz).trans k1, (hcc4 _ 2 hz).trans k2, (hcc4 _ 3 hz).trans k3, (hcc4 _ 4 hz).trans k4⟩ (fun hHeld => ?_); refine with_tabW regS4.tab regS4.bits (fun HT_ HW_ => ?_)
    clear hcc4
    have HBD := Aside0.mk (below_drew1 HB.out)
    clear HB
    have HB := HBD
    clear HBD
    generalize V3.drew = X4 at HB hHeld ⊢
    refine pure_ (i := 0) (N := some 38) (v := ?_) (a' := ?_) #[true, false, false, false, false, false, false, false, false, false, false, false, false, false] rfl rfl (any_of HT_.out (by kernel_rfl)) (fun _ _ _ h => h) (Or.inl ⟨by rfl, ?_⟩) ?_ ?_
    rotate_left
    · intro w'
      go_simp
      with_reducible rfl
    rotate_left
    · simp only [Act.put, List.setIfInBounds_toArray, List.set_cons_zero, List.set_cons_succ, i64_w, i32_w]
      rfl
    refine pure_ (i := 4) (N := some 42) (v := ?_) (a' := ?_) #[true, false, false, false, true, false, false, false, false, false, false, false, false, false] rfl rfl (any_of HT_.out (by kernel_rfl)) (fun _ _ _ h => h) (Or.inl ⟨by rfl, ?_⟩) ?_ ?_
    rotate_left
    · intro w'
      go_simp
      with_reducible rfl
    rotate_left
    · simp only [Act.put, List.setIfInBounds_toArray, List.set_cons_zero, List.set_cons_succ, i64_w, i32_w]
      rfl
    refine pure_ (i := 7) (N := some 45) (v := ?_) (a' := ?_) #[true, false, false, false, true, false, false, true, false, false, false, false, false, false] rfl rfl (any_of HT_.out (by kernel_rfl)) (fun _ _ _ h => h) (Or.inl ⟨by rfl, ?_⟩) ?_ ?_
    rotate_left
    · intro w'
      go_simp
      with_reducible rfl
    rotate_left
    · simp only [Act.put, List.setIfInBounds_toArray, List.set_cons_zero, List.set_cons_succ, i64_w, i32_w]
      rfl
    refine take_ (i := 1) (N := some 39) (v := ?_) (a' := ?_) #[true, true, false, false, true, false, false, true, false, false, false, false, false, false] rfl rfl (take_ofW HT_.out HW_.out (by kernel_rfl)) (fun _ _ _ h => h) (Or.inl ⟨by rfl, ?_⟩) hHeld ?_ ?_
    rotate_left
    · rintro w' ⟨s0, s1, s2, s3, s4⟩
      go_simp
      with_reducible rfl
    rotate_left
    · simp only [Act.put, List.setIfInBounds_toArray, List.set_cons_zero, List.set_cons_succ, i64_w, i32_w]
      rfl
    refine take_ (i := 5) (N := some 43) (v := ?_) (a' := ?_) #[true, true, false, false, true, true, false, true, false, false, false, false, false, false] rfl rfl (take_ofW HT_.out HW_.out (by kernel_rfl)) (fun _ _ _ h => h) (Or.inl ⟨by rfl, ?_⟩) hHeld ?_ ?_
    rotate_left
    · rintro w' ⟨s0, s1, s2, s3, s4⟩
      go_simp
      with_reducible rfl
    rotate_left
    · simp only [Act.put, List.setIfInBounds_toArray, List.set_cons_zero, List.set_cons_succ, i64_w, i32_w]
      rfl
    refine law_inv (bits := regS4.bits_) (i8 := 8) (i13 := 13) (s2 := 40) (s3 := 41) (s6 := 44) (s8 := 46) (s13 := 105) ⟨by decide, by decide, by decide, by decide, by decide, by decide, by decide, by decide, by decide, by decide, by decide, by decide, by decide⟩ (a0 := a0) (a1 := a1) (a2 := a2) (rs := l) (inp := inp) (R := fun v => v = .tuple #[.int .i64 (spaceQ a0 a1 a2 l inp most).1, .int .i64 (spaceQ a0 a1 a2 l inp most).2]) (E := fun _ _ => True) (e0 := true) X4 (fun p b c_ d e h1 h2 h3 h4 => by rw [ready_eq, HT_.out]; exact regS4.steps p b c_ d e h1 h2 h3 h4) (o2 := _) (o3 := _) (o6 := _) (o8 := _) (o13 := default) rfl rfl rfl rfl (fun h => by cases h) (sM := 39) (sX := 43) (sN := 45) (F := 21) ⟨rfl, rfl, rfl⟩ ⟨rfl, rfl, rfl⟩ ⟨rfl, rfl, rfl⟩ ⟨rfl, rfl, rfl⟩ Try.func21 (by kernel_rfl) rfl _ rfl (A := A) (A5 := A5) (c := c) (c5 := c5) (m := most) (by decide) (by decide) (by decide) rfl rfl rfl (Kd.C_below HR.out HB.out) (Kd.C_below H5.out HB.out) (by have := HS1.out; omega) (fun r hr => by have := HS3.out r hr; omega) (by have := HS2.out; omega) (fun w_ B cb D cd q1 q2 q3 => (Space_walk a0 a1 a2 B cb l D cd inp most w_ q1 q2 q3).mono (by rintro e_ w' ⟨rfl, hb⟩; exact ⟨_, rfl, rfl, hb⟩)) (fun _ _ _ _ _ => trivial) (fun w' hb => ⟨pw_cell_below hb hHeld.1, pw_cell_below hb hHeld.2.1, pw_cell_below hb hHeld.2.2.1, pw_cell_below hb hHeld.2.2.2.1, pw_cell_below hb hHeld.2.2.2.2⟩) (by simp only [put5, Act.put, List.setIfInBounds_toArray, List.set_cons_zero, List.set_cons_succ]; rfl) (fun _ => trivial) 5 4 rfl ?_ (fun h => ?_)
    rotate_left
    · cases h
    rintro x2 x3 x6 v x13 V4 hb4 rfl _
    have HB4 := Aside0.mk (below_step HB.out hb4)
    clear hb4 HB
    refine norm_ (a' := ?_) ?_ ?_
    rotate_left
    · simp only [put5, putAll, runV, runS_, Act.put, List.setIfInBounds_toArray, List.set_cons_zero, List.set_cons_succ]
      rfl
    refine pure_ (i := 9) (N := some 37) (v := ?_) (a' := ?_) #[true, true, true, true, true, true, true, true, true, true, false, false, false, false] rfl rfl (any_of HT_.out (by kernel_rfl)) (fun _ _ _ h => h) (Or.inl ⟨by rfl, ?_⟩) ?_ ?_
    rotate_left
    · intro w'
      go_simp
      with_reducible rfl
    rotate_left
    · simp only [Act.put, List.setIfInBounds_toArray, List.set_cons_zero, List.set_cons_succ, i64_w, i32_w]
      rfl
    refine pure_ (i := 10) (N := some 47) (v := ?_) (a' := ?_) #[true, true, true, true, true, true, true, true, true, true, true, false, false, false] rfl rfl (any_of HT_.out (by kernel_rfl)) (fun _ _ _ h => h) (Or.inl ⟨by rfl, ?_⟩) ?_ ?_
    rotate_left
    · intro w'
      go_simp
      with_reducible rfl
    rotate_left
    · simp only [Act.put, List.setIfInBounds_toArray, List.set_cons_zero, List.set_cons_succ, i64_w, i32_w]
      rfl
    refine pure_ (i := 11) (N := some 48) (v := ?_) (a' := ?_) #[true, true, true, true, true, true, true, true, true, true, true, true, false, false] rfl rfl (any_of HT_.out (by kernel_rfl)) (fun _ _ _ h => h) (Or.inl ⟨by rfl, ?_⟩) ?_ ?_
    rotate_left
    · intro w'
      go_simp
      with_reducible rfl
    rotate_left
    · simp only [Act.put, List.setIfInBounds_toArray, List.set_cons_zero, List.set_cons_succ, i64_w, i32_w]
      rfl
    refine pure_ (i := 12) (N := some 8) (v := ?_) (a' := ?_) #[true, true, true, true, true, true, true, true, true, true, true, true, true, false] rfl rfl (any_of HT_.out (by kernel_rfl)) (fun _ _ _ h => h) (Or.inl ⟨by rfl, ?_⟩) ?_ ?_
    rotate_left
    · intro w'
      go_simp
      with_reducible rfl
    rotate_left
    · simp only [Act.put, List.setIfInBounds_toArray, List.set_cons_zero, List.set_cons_succ, i64_w, i32_w]
      rfl
    refine pure_ (i := 13) (N := some 9) (v := ?_) (a' := ?_) #[true, true, true, true, true, true, true, true, true, true, true, true, true, true] rfl rfl (any_of HT_.out (by kernel_rfl)) (fun _ _ _ h => h) (Or.inl ⟨by rfl, ?_⟩) ?_ ?_
    rotate_left
    · intro w'
      go_simp
      with_reducible rfl
    rotate_left
    · simp only [Act.put, List.setIfInBounds_toArray, List.set_cons_zero, List.set_cons_succ, i64_w, i32_w]
      rfl
    refine done_ (done_of HT_.out (by kernel_rfl)) ?_
    have HB := HB4
    clear HB4
    try go_wp2_with fail
    obtain ⟨hcc5, _⟩ := bcell HB.out
    refine start_ (n := 15) (S := fun w' => w'.cell? ⟨w.heap.size, 0, none⟩ = some (.int .i64 a0) ∧ w'.cell? ⟨w.heap.size, 1, none⟩ = some (.int .i64 a1) ∧ w'.cell? ⟨w.heap.size, 2, none⟩ = some (.int .i64 a2) ∧ w'.cell? ⟨w.heap.size, 3, none⟩ = some (.slice A l.length c) ∧ w'.cell? ⟨w.heap.size, 4, none⟩ = some (.slice A5 inp.length c5)) (ds := []) #[false, false, false, false, false, false, false, false, false, false, false, false, false, false, false] (by kernel_rfl) rfl rfl ⟨(hcc5 _ 0 hz).trans k0, (hcc5 _ 1 hz).trans k1, (hcc5 _ 2 hz).trans k2, (hcc5 _ 3 hz).trans k3, (hcc5 _ 4 hz).trans k4⟩ (fun hHeld => ?_); refine with_tabW regS5.tab regS5.bits (fun HT_ HW_ => ?_)
    clear hcc5
    have HBD := Aside0.mk (below_drew1 HB.out)
    clear HB
    have HB := HBD
    clear HBD
    generalize V4.drew = X5 at HB hHeld ⊢
    refine pure_ (i := 0) (N := some 50) (v := ?_) (a' := ?_) #[true, false, false, false, false, false, false, false, false, false, false, false, false, false, false] rfl rfl (any_of HT_.out (by kernel_rfl)) (fun _ _ _ h => h) (Or.inl ⟨by rfl, ?_⟩) ?_ ?_
    rotate_left
    · intro w'
      go_simp
      with_reducible rfl
    rotate_left
    · simp only [Act.put, List.setIfInBounds_toArray, List.set_cons_zero, List.set_cons_succ, i64_w, i32_w]
      rfl
    refine pure_ (i := 4) (N := some 54) (v := ?_) (a' := ?_) #[true, false, false, false, true, false, false, false, false, false, false, false, false, false, false] rfl rfl (any_of HT_.out (by kernel_rfl)) (fun _ _ _ h => h) (Or.inl ⟨by rfl, ?_⟩) ?_ ?_
    rotate_left
    · intro w'
      go_simp
      with_reducible rfl
    rotate_left
    · simp only [Act.put, List.setIfInBounds_toArray, List.set_cons_zero, List.set_cons_succ, i64_w, i32_w]
      rfl
    refine pure_ (i := 7) (N := some 57) (v := ?_) (a' := ?_) #[true, false, false, false, true, false, false, true, false, false, false, false, false, false, false] rfl rfl (any_of HT_.out (by kernel_rfl)) (fun _ _ _ h => h) (Or.inl ⟨by rfl, ?_⟩) ?_ ?_
    rotate_left
    · intro w'
      go_simp
      with_reducible rfl
    rotate_left
    · simp only [Act.put, List.setIfInBounds_toArray, List.set_cons_zero, List.set_cons_succ, i64_w, i32_w]
      rfl
    refine pure_ (i := 8) (N := some 58) (v := ?_) (a' := ?_) #[true, false, false, false, true, false, false, true, true, false, false, false, false, false, false] rfl rfl (any_of HT_.out (by kernel_rfl)) (fun _ _ _ h => h) (Or.inl ⟨by rfl, ?_⟩) ?_ ?_
    rotate_left
    · intro w'
      go_simp
      with_reducible rfl
    rotate_left
    · simp only [Act.put, List.setIfInBounds_toArray, List.set_cons_zero, List.set_cons_succ, i64_w, i32_w]
      rfl
    refine take_ (i := 1) (N := some 51) (v := ?_) (a' := ?_) #[true, true, false, false, true, false, false, true, true, false, false, false, false, false, false] rfl rfl (take_ofW HT_.out HW_.out (by kernel_rfl)) (fun _ _ _ h => h) (Or.inl ⟨by rfl, ?_⟩) hHeld ?_ ?_
    rotate_left
    · rintro w' ⟨s0, s1, s2, s3, s4⟩
      go_simp
      with_reducible rfl
    rotate_left
    · simp only [Act.put, List.setIfInBounds_toArray, List.set_cons_zero, List.set_cons_succ, i64_w, i32_w]
      rfl
    refine take_ (i := 5) (N := some 55) (v := ?_) (a' := ?_) #[true, true, false, false, true, true, false, true, true, false, false, false, false, false, false] rfl rfl (take_ofW HT_.out HW_.out (by kernel_rfl)) (fun _ _ _ h => h) (Or.inl ⟨by rfl, ?_⟩) hHeld ?_ ?_
    rotate_left
    · rintro w' ⟨s0, s1, s2, s3, s4⟩
      go_simp
      with_reducible rfl
    rotate_left
    · simp only [Act.put, List.setIfInBounds_toArray, List.set_cons_zero, List.set_cons_succ, i64_w, i32_w]
      rfl
    refine law_inv (bits := regS5.bits_) (i8 := 9) (i13 := 13) (s2 := 52) (s3 := 53) (s6 := 56) (s8 := 59) (s13 := 105) ⟨by decide, by decide, by decide, by decide, by decide, by decide, by decide, by decide, by decide, by decide, by decide, by decide, by decide⟩ (a0 := a0) (a1 := a1) (a2 := a2) (rs := l) (inp := inp) (R := fun v => v = .tuple #[.int .i64 (spaceQ a0 a1 a2 l inp (most - 1)).1, .int .i64 (spaceQ a0 a1 a2 l inp (most - 1)).2]) (E := fun _ _ => True) (e0 := true) X5 (fun p b c_ d e h1 h2 h3 h4 => by rw [ready_eq, HT_.out]; exact regS5.steps p b c_ d e h1 h2 h3 h4) (o2 := _) (o3 := _) (o6 := _) (o8 := _) (o13 := default) rfl rfl rfl rfl (fun h => by cases h) (sM := 51) (sX := 55) (sN := 58) (F := 21) ⟨rfl, rfl, rfl⟩ ⟨rfl, rfl, rfl⟩ ⟨rfl, rfl, rfl⟩ ⟨rfl, rfl, rfl⟩ Try.func21 (by kernel_rfl) rfl _ rfl (A := A) (A5 := A5) (c := c) (c5 := c5) (m := (most - 1)) (by decide) (by decide) (by decide) rfl rfl (by first | rfl | (show Value.int .i64 (wrap64 (most - 1)) = _; rw [show wrap64 (most - 1) = most - 1 by have := H1.out; have := H2.out; unfold wrap64; omega])) (Kd.C_below HR.out HB.out) (Kd.C_below H5.out HB.out) (by have := HS1.out; omega) (fun r hr => by have := HS3.out r hr; omega) (by have := HS2.out; omega) (fun w_ B cb D cd q1 q2 q3 => (Space_walk a0 a1 a2 B cb l D cd inp (most - 1) w_ q1 q2 q3).mono (by rintro e_ w' ⟨rfl, hb⟩; exact ⟨_, rfl, rfl, hb⟩)) (fun _ _ _ _ _ => trivial) (fun w' hb => ⟨pw_cell_below hb hHeld.1, pw_cell_below hb hHeld.2.1, pw_cell_below hb hHeld.2.2.1, pw_cell_below hb hHeld.2.2.2.1, pw_cell_below hb hHeld.2.2.2.2⟩) (by simp only [put5, Act.put, List.setIfInBounds_toArray, List.set_cons_zero, List.set_cons_succ]; rfl) (fun _ => trivial) 5 4 rfl ?_ (fun h => ?_)
    rotate_left
    · cases h
    rintro x2 x3 x6 v x13 V5 hb4 rfl _
    have HB4 := Aside0.mk (below_step HB.out hb4)
    clear hb4 HB
    refine norm_ (a' := ?_) ?_ ?_
    rotate_left
    · simp only [put5, putAll, runV, runS_, Act.put, List.setIfInBounds_toArray, List.set_cons_zero, List.set_cons_succ]
      rfl
    refine pure_ (i := 10) (N := some 49) (v := ?_) (a' := ?_) #[true, true, true, true, true, true, true, true, true, true, true, false, false, false, false] rfl rfl (any_of HT_.out (by kernel_rfl)) (fun _ _ _ h => h) (Or.inl ⟨by rfl, ?_⟩) ?_ ?_
    rotate_left
    · intro w'
      go_simp
      with_reducible rfl
    rotate_left
    · simp only [Act.put, List.setIfInBounds_toArray, List.set_cons_zero, List.set_cons_succ, i64_w, i32_w]
      rfl
    refine pure_ (i := 11) (N := some 60) (v := ?_) (a' := ?_) #[true, true, true, true, true, true, true, true, true, true, true, true, false, false, false] rfl rfl (any_of HT_.out (by kernel_rfl)) (fun _ _ _ h => h) (Or.inl ⟨by rfl, ?_⟩) ?_ ?_
    rotate_left
    · intro w'
      go_simp
      with_reducible rfl
    rotate_left
    · simp only [Act.put, List.setIfInBounds_toArray, List.set_cons_zero, List.set_cons_succ, i64_w, i32_w]
      rfl
    refine pure_ (i := 12) (N := some 61) (v := ?_) (a' := ?_) #[true, true, true, true, true, true, true, true, true, true, true, true, true, false, false] rfl rfl (any_of HT_.out (by kernel_rfl)) (fun _ _ _ h => h) (Or.inl ⟨by rfl, ?_⟩) ?_ ?_
    rotate_left
    · intro w'
      go_simp
      with_reducible rfl
    rotate_left
    · simp only [Act.put, List.setIfInBounds_toArray, List.set_cons_zero, List.set_cons_succ, i64_w, i32_w]
      rfl
    refine pure_ (i := 13) (N := some 10) (v := ?_) (a' := ?_) #[true, true, true, true, true, true, true, true, true, true, true, true, true, true, false] rfl rfl (any_of HT_.out (by kernel_rfl)) (fun _ _ _ h => h) (Or.inl ⟨by rfl, ?_⟩) ?_ ?_
    rotate_left
    · intro w'
      go_simp
      with_reducible rfl
    rotate_left
    · simp only [Act.put, List.setIfInBounds_toArray, List.set_cons_zero, List.set_cons_succ, i64_w, i32_w]
      rfl
    refine pure_ (i := 14) (N := some 11) (v := ?_) (a' := ?_) #[true, true, true, true, true, true, true, true, true, true, true, true, true, true, true] rfl rfl (any_of HT_.out (by kernel_rfl)) (fun _ _ _ h => h) (Or.inl ⟨by rfl, ?_⟩) ?_ ?_
    rotate_left
    · intro w'
      go_simp
      with_reducible rfl
    rotate_left
    · simp only [Act.put, List.setIfInBounds_toArray, List.set_cons_zero, List.set_cons_succ, i64_w, i32_w]
      rfl
    refine done_ (done_of HT_.out (by kernel_rfl)) ?_
    have HB := HB4
    clear HB4
    -- END
    have c2 : V5.cell? ⟨w.heap.size, 2, none⟩ = some (.int .i64 a2) := (((bcell HB.out).1 _ 2 hz).trans k2)
    have zz : w.heap.size < V5.heap.size := Nat.lt_of_lt_of_le hz HB.out.size
    have HBF := Aside0.mk (HB0.out.trans (HB.out.mono HB0.out.size))
    clear HB
    have HB := HBF
    clear HBF
    rcases space_pack (a0 := a0) (a1 := a1) (a2 := a2) (l := l) (inp := inp) H1.out H2.out with ⟨x, y, N, e1, e2, e3, e4, l1, l2, l3, l4, l5, l6, l7⟩ | ⟨er, hne, e1, e2, e3⟩
    · rw [e1, e2, e3, e4]
      have t1 : decide (a2 ≤ x) = true := decide_eq_true l1
      have t2 : decide (x ≤ a2 * (1 + N)) = true := decide_eq_true l2
      have t3 : decide (y ≤ x) = true := decide_eq_true l3
      have t4 : wrap64 (1 + N) = 1 + N := by unfold wrap64; omega
      have t5 : wrap64 (a2 * (1 + N)) = a2 * (1 + N) := by
        have h0 : 0 ≤ a2 * (1 + N) := Int.mul_nonneg (by omega) (by omega)
        have h9 : a2 * (1 + N) ≤ 3 * 20001 := Int.mul_le_mul l7 (by omega) (by omega) (by omega)
        unfold wrap64; omega
      clear e1 e2 e3 e4 l1 l2 l3
      go_wp2_with (go_at_call 10; refine (awake_walk _).mono ?_; rintro e w9 ⟨rfl, hb⟩; have n0 := Aside0.mk (below_step HB.out hb); clear HB hb; have HB := n0; clear n0)
      go_ret
      exact ⟨rfl, HB.out⟩
    · rw [e1, e2, e3]
      have t1 : (er != 0) = true := by simpa using hne
      clear e1 e2 e3 hne
      go_wp2_with (go_at_call 10; refine (awake_walk _).mono ?_; rintro e w9 ⟨rfl, hb⟩; have n0 := Aside0.mk (below_step HB.out hb); clear HB hb; have HB := n0; clear n0)
      go_ret
      exact ⟨rfl, HB.out⟩
end Go.Proofs.Ytfoodfhhdbaieaa.Giv
