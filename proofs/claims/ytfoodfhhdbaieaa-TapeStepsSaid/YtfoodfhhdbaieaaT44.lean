/- The law TapeSteps walked. -/
import Derived.Test.YtfoodfhhdbaieaaT25
import Derived.Test.YtfoodfhhdbaieaaT28
import Derived.Test.YtfoodfhhdbaieaaT42
import Derived.Test.YtfoodfhhdbaieaaT43
namespace Go.Proofs.Ytfoodfhhdbaieaa.Giv
set_option linter.unusedSimpArgs false
set_option linter.unusedVariables false
open Go.RowKit Go.Shelf Go.Proofs.YtfoodfhhdbaieaaW.PrintWords Go.Proofs.YtfoodfhhdbaieaaW.PrintLast Go.Proofs.YtfoodfhhdbaieaaW.PrintMore
open Go.Proofs.Ytfoodfhhdbaieaa.Ka (S54 k54 z54 rd_T54 at_T54 k54_open k54_mk k54_openM k54_mkM rd_L1 at_L1 info3 info25 info54)

theorem tape_cells7 {w : World} {k : Nat} {a b c d e : Value} {t : TypeId} (h : w.heap[k]? = some (.cells #[a, b, c, d, e] t (0, 0))) : w.cell? ⟨k, 0, none⟩ = some a ∧ w.cell? ⟨k, 1, none⟩ = some b ∧ w.cell? ⟨k, 2, none⟩ = some c ∧ w.cell? ⟨k, 3, none⟩ = some d ∧ w.cell? ⟨k, 4, none⟩ = some e := by
  simp [World.cell?, h]
-- THE TABLES
def regT3.T : Bool × List (List Nat × List Nat) := (true, [([], []), ([0], [0]), ([1], [1]), ([], []), ([], []), ([4], [4]), ([3, 5, 2], [3, 5]), ([2, 6, 6], [2, 6]), ([7], [7]), ([8], [8]), ([8], [8]), ([], []), ([11, 9, 7, 0, 1, 2, 3, 4, 5, 6, 7, 8, 9, 11], [9, 11]), ([10, 12, 0, 1, 2, 3, 4, 5, 6, 7, 8, 9, 10, 11, 12], [10])])
def regT3.B : List Nat := [0, 1, 3, 0, 0, 16, 63, 127, 255, 511, 511, 0, 3071, 8191]
theorem regT3.tab : rtab .any (opsOf Try.f7 3) = regT3.T := by kernel_rfl
theorem regT3.bits : waitsOk regT3.T.2 regT3.B = true := by kernel_rfl
def regT3.bits_ (p b c d e : Bool) : Array Bool := #[true, true, p, b, true, true, c, d, false, false, false, e, false, false]
theorem regT3.steps : ∀ p b c d e, (e = false → false = false) → (p = false → false = false) → (d = true → e = true) → goodL p b c d = true → cntL p b c d e < 5 → readyT regT3.T.2 (regT3.bits_ p b c d e).toList ≠ [] ∧ ∀ i ∈ readyT regT3.T.2 (regT3.bits_ p b c d e).toList, i ∉ ([12] : List Nat) ∧ LawStepG regT3.bits_ 2 3 6 7 11 p b c d e i := by decide +kernel
def regT4.T : Bool × List (List Nat × List Nat) := (true, [([], []), ([0], [0]), ([1], [1]), ([], []), ([], []), ([4], [4]), ([3, 5, 2], [3, 5]), ([], []), ([2, 6, 7, 6], [2, 6, 7]), ([8], [8]), ([9], [9]), ([9], [9]), ([9], [9]), ([], []), ([13, 10, 8, 0, 1, 2, 3, 4, 5, 6, 7, 8, 9, 10, 13], [10, 13]), ([11, 14, 0, 1, 2, 3, 4, 5, 6, 7, 8, 9, 10, 11, 13, 14], [11]), ([12, 15, 0, 1, 2, 3, 4, 5, 6, 7, 8, 9, 10, 11, 12, 13, 14, 15], [12])])
def regT4.B : List Nat := [0, 1, 3, 0, 0, 16, 63, 0, 255, 511, 1023, 1023, 1023, 0, 10239, 28671, 65535]
theorem regT4.tab : rtab .any (opsOf Try.f7 4) = regT4.T := by kernel_rfl
theorem regT4.bits : waitsOk regT4.T.2 regT4.B = true := by kernel_rfl
def regT4.bits_ (p b c d e : Bool) : Array Bool := #[true, true, p, b, true, true, c, true, d, false, false, false, false, e, false, false, false]
theorem regT4.steps : ∀ p b c d e, (e = false → false = false) → (p = false → false = false) → (d = true → e = true) → goodL p b c d = true → cntL p b c d e < 5 → readyT regT4.T.2 (regT4.bits_ p b c d e).toList ≠ [] ∧ ∀ i ∈ readyT regT4.T.2 (regT4.bits_ p b c d e).toList, i ∉ ([14] : List Nat) ∧ LawStepG regT4.bits_ 2 3 6 8 13 p b c d e i := by decide +kernel
def regT10.T : Bool × List (List Nat × List Nat) := (true, [([], []), ([0], [0]), ([1], [1]), ([], []), ([2, 3, 2], [2, 3]), ([4], [4]), ([5], [5]), ([5], [5]), ([], []), ([8, 6, 4, 0, 1, 2, 3, 4, 5, 6, 8], [6, 8]), ([7, 9, 0, 1, 2, 3, 4, 5, 6, 7, 8, 9], [7])])
def regT10.B : List Nat := [0, 1, 3, 0, 15, 31, 63, 63, 0, 383, 1023]
theorem regT10.tab : rtab .any (opsOf Try.f7 10) = regT10.T := by kernel_rfl
theorem regT10.bits : waitsOk regT10.T.2 regT10.B = true := by kernel_rfl
def regT10.bits_ (p b d e : Bool) : Array Bool := #[true, true, p, true, d, false, false, false, e, false, false]
theorem regT10.steps : ∀ p b d e, (e = false → false = false) → (b = false → true = false) → (d = true → e = true) → goodS p b d = true → cntS p b d e < 4 → readyT regT10.T.2 (regT10.bits_ p b d e).toList ≠ [] ∧ ∀ i ∈ readyT regT10.T.2 (regT10.bits_ p b d e).toList, i ∉ ([9] : List Nat) ∧ LawStepS regT10.bits_ 2 99 4 8 p b d e i := by decide +kernel
def regT16.T : Bool × List (List Nat × List Nat) := (true, [([], []), ([0], [0]), ([1], [1]), ([], []), ([2, 3, 2], [2, 3]), ([4], [4]), ([5], [5]), ([5], [5]), ([], []), ([8, 6, 4, 0, 1, 2, 3, 4, 5, 6, 8], [6, 8]), ([7, 9, 0, 1, 2, 3, 4, 5, 6, 7, 8, 9], [7])])
def regT16.B : List Nat := [0, 1, 3, 0, 15, 31, 63, 63, 0, 383, 1023]
theorem regT16.tab : rtab .any (opsOf Try.f7 16) = regT16.T := by kernel_rfl
theorem regT16.bits : waitsOk regT16.T.2 regT16.B = true := by kernel_rfl
def regT16.bits_ (p b d e : Bool) : Array Bool := #[true, true, p, true, d, false, false, false, e, false, false]
theorem regT16.steps : ∀ p b d e, (e = false → false = false) → (b = false → true = false) → (d = true → e = true) → goodS p b d = true → cntS p b d e < 4 → readyT regT16.T.2 (regT16.bits_ p b d e).toList ≠ [] ∧ ∀ i ∈ readyT regT16.T.2 (regT16.bits_ p b d e).toList, i ∉ ([9] : List Nat) ∧ LawStepS regT16.bits_ 2 99 4 8 p b d e i := by decide +kernel
-- END TABLES
set_option maxHeartbeats 8000000 in
set_option maxRecDepth 100000 in
theorem tapeSteps_walk (a0 a1 a2 : Int) (A : Option Addr) (c : Nat) (l : List S54) (A5 : Option Addr) (c5 : Nat) (inp : List Int) (most : Int) (w : World) (hr : Kd.C k54 w A l.length l) (hlc : l.length ≤ c) (h5 : Kd.C (Kd.int .i64) w A5 inp.length inp) (hlc5 : inp.length ≤ c5) (hf : ∀ r ∈ l, Fits r) :
    Calls Try.prog 7 #[.agg #[.int .i64 a0, .int .i64 a1, .int .i64 a2, .slice A l.length c, .slice A5 inp.length c5], .int .i64 most] w fun e w' => e = .returned (.bool true) ∧ Below w.heap.size w w' := by
  obtain ⟨kb, rb, hkb, hsmall⟩ := big_total a0 a1 a2 (inp := inp) hf
  obtain ⟨W, hW⟩ : ∃ W, w.alloc (Obj.cells #[.int .i64 a0, .int .i64 a1, .int .i64 a2, .slice A l.length c, .slice A5 inp.length c5] 27) = W := ⟨_, rfl⟩
  have hb0 : Below w.heap.size w W := by rw [← hW]; exact (Below.refl _ _).alloc (Nat.le_refl _) _
  have hz : w.heap.size < W.heap.size := by rw [← hW]; simp
  have hbx : W.heap[w.heap.size]? = some (.cells #[.int .i64 a0, .int .i64 a1, .int .i64 a2, .slice A l.length c, .slice A5 inp.length c5] 27 (0, 0)) := by rw [← hW]; exact heap_alloc_new _ _
  obtain ⟨k0, k1, k2, k3, k4⟩ := tape_cells7 hbx
  have HBIG := Aside0.mk (Ka.commodatumlaw20_big.calls kb a0 a1 a2 A c l A5 c5 inp rb W (Kd.C_below hr hb0) hlc (Kd.C_below h5 hb0) hlc5 hkb)
  have HW := Aside0.mk hW
  have HB0 := Aside0.mk hb0
  have HR := Aside0.mk (Kd.C_below hr hb0)
  have H5 := Aside0.mk (Kd.C_below h5 hb0)
  have HL5 := Aside0.mk hlc5
  have HX := Aside0.mk (Below.refl W.heap.size W)
  by_cases hA : rb = true
  · subst hA
    clear hr hlc h5 hlc5 hf hkb hsmall hW hb0 hbx HR H5 HL5
    go_enter Try.func7, Try.ntmps7
    go_wp2_with (first
      | (go_at_call 9; rw [HW.out]; refine HBIG.out.mono ?_; rintro e w1 ⟨rfl, hb⟩; have n0 := Aside0.mk (below_step HX.out hb); clear HX hb; have HX := n0; clear n0)
      | (go_at_call 10; refine (awake_walk _).mono ?_; rintro e w2 ⟨rfl, hb⟩; have n0 := Aside0.mk (below_step HX.out hb); clear HX hb; have HX := n0; clear n0))
    go_ret
    exact ⟨rfl, below_step HB0.out HX.out⟩
  obtain rfl : rb = false := by simpa using hA
  obtain ⟨s1, s2, s3⟩ := hsmall rfl
  have HS1 := Aside0.mk s1
  have HS2 := Aside0.mk s2
  have HS3 := Aside0.mk s3
  obtain ⟨kv, hkv⟩ := refValid_total (a0 := a0) (a1 := a1) (a2 := a2) s1 s3
  have HVAL : Aside0 (∀ w1, Below W.heap.size W w1 → Calls Try.prog 11 #[.agg #[.int .i64 a0, .int .i64 a1, .int .i64 a2, .slice A l.length c]] w1 fun e w' => e = .returned (.bool (validM a0 a1 a2 l)) ∧ Below w1.heap.size w1 w') := ⟨fun w1 hb => Ka.commodatumref20_Valid.calls kv a0 a1 a2 A c l (validM a0 a1 a2 l) w1 (Kd.C_below hr (below_step hb0 hb)) hlc hkv⟩
  have HINP : Aside0 (validM a0 a1 a2 l = true → ∀ w1, Below W.heap.size W w1 → Calls Try.prog 12 #[.agg #[.int .i64 a0, .int .i64 a1, .int .i64 a2, .slice A l.length c], .slice A5 inp.length c5] w1 fun e w' => e = .returned (.bool (!startBad a1 inp)) ∧ Below w1.heap.size w1 w') := ⟨fun hv w1 hb => by
    obtain ⟨ki, hki⟩ := refInput_total (a0 := a0) (a2 := a2) (l := l) (inp := inp) (by omega) (valid_a2 hv).2.1
    exact Ka.commodatumref20_Input.calls ki a0 a1 a2 A c l A5 c5 inp (!startBad a1 inp) w1 (Kd.C_below hr (below_step hb0 hb)) hlc (Kd.C_below h5 (below_step hb0 hb)) hlc5 hki⟩
  have HST : Aside0 (validM a0 a1 a2 l = true → startBad a1 inp = false → 0 ≤ most → most ≤ 300 → ∃ (N : Nat) (C : Nat → Sc), (N : Int) ≤ most ∧ C 0 = startSc a2 inp ∧ runQ a0 a1 a2 l inp most = (C N, N, 0) ∧ (∀ i, i < N → stepQ a0 a1 a2 l (C i).s (C i).at_ (C i).tp = (C (i + 1), 0)) ∧ ((N : Int) < most → (stepQ a0 a1 a2 l (C N).s (C N).at_ (C N).tp).2 = 6)) := ⟨fun h1 h2 h3 h4 => steps_law h1 h2 h3 h4⟩
  clear hr hlc h5 hlc5 hf hkb hsmall hW hb0 hbx hA s1 s2 s3 hkv
  by_cases hB : most < 0
  · have d1 : decide (most < 0) = true := decide_eq_true hB
    clear hB
    go_enter Try.func7, Try.ntmps7
    go_wp2_with (first
      | (go_at_call 9; rw [HW.out]; refine HBIG.out.mono ?_; rintro e w1 ⟨rfl, hb⟩; have n0 := Aside0.mk (below_step HX.out hb); clear HX hb; have HX := n0; clear n0)
      | (go_at_call 10; refine (awake_walk _).mono ?_; rintro e w2 ⟨rfl, hb⟩; have n0 := Aside0.mk (below_step HX.out hb); clear HX hb; have HX := n0; clear n0))
    go_ret
    exact ⟨rfl, below_step HB0.out HX.out⟩
  have d1 : decide (most < 0) = false := decide_eq_false hB
  by_cases hC : 300 < most
  · have d2 : decide (300 < most) = true := decide_eq_true hC
    clear hB hC
    go_enter Try.func7, Try.ntmps7
    go_wp2_with (first
      | (go_at_call 9; rw [HW.out]; refine HBIG.out.mono ?_; rintro e w1 ⟨rfl, hb⟩; have n0 := Aside0.mk (below_step HX.out hb); clear HX hb; have HX := n0; clear n0)
      | (go_at_call 10; refine (awake_walk _).mono ?_; rintro e w2 ⟨rfl, hb⟩; have n0 := Aside0.mk (below_step HX.out hb); clear HX hb; have HX := n0; clear n0))
    go_ret
    exact ⟨rfl, below_step HB0.out HX.out⟩
  have d2 : decide (300 < most) = false := decide_eq_false hC
  by_cases hD : 2000 < (inp.length : Int)
  · have d3 : decide (2000 < (inp.length : Int)) = true := decide_eq_true hD
    clear hB hC hD
    go_enter Try.func7, Try.ntmps7
    go_wp2_with (first
      | (go_at_call 9; rw [HW.out]; refine HBIG.out.mono ?_; rintro e w1 ⟨rfl, hb⟩; have n0 := Aside0.mk (below_step HX.out hb); clear HX hb; have HX := n0; clear n0; have p4 := ((bcell HX.out).1 _ 4 hz).trans k4)
      | (go_at_call 10; refine (awake_walk _).mono ?_; rintro e w2 ⟨rfl, hb⟩; have n0 := Aside0.mk (below_step HX.out hb); clear HX hb; have HX := n0; clear n0))
    go_ret
    exact ⟨rfl, below_step HB0.out HX.out⟩
  have d3 : decide (2000 < (inp.length : Int)) = false := decide_eq_false hD
  cases hv : validM a0 a1 a2 l with
  | false =>
    rw [hv] at HVAL
    clear hB hC hD hv
    go_enter Try.func7, Try.ntmps7
    go_wp2_with (first
      | (go_at_call 9; rw [HW.out]; refine HBIG.out.mono ?_; rintro e w1 ⟨rfl, hb⟩; have n0 := Aside0.mk (below_step HX.out hb); clear HX hb; have HX := n0; clear n0; have p0 := ((bcell HX.out).1 _ 0 hz).trans k0; have p1 := ((bcell HX.out).1 _ 1 hz).trans k1; have p2 := ((bcell HX.out).1 _ 2 hz).trans k2; have p3 := ((bcell HX.out).1 _ 3 hz).trans k3; have p4 := ((bcell HX.out).1 _ 4 hz).trans k4)
      | (go_at_call 11; refine (HVAL.out _ HX.out).mono ?_; rintro e w2 ⟨rfl, hb⟩; have n0 := Aside0.mk (below_step HX.out hb); clear HX hb; have HX := n0; clear n0)
      | (go_at_call 10; refine (awake_walk _).mono ?_; rintro e w2 ⟨rfl, hb⟩; have n0 := Aside0.mk (below_step HX.out hb); clear HX hb; have HX := n0; clear n0))
    go_ret
    exact ⟨rfl, below_step HB0.out HX.out⟩
  | true =>
    have HINP' := Aside0.mk (HINP.out hv)
    cases hs : startBad a1 inp with
    | true =>
      rw [hv] at HVAL
      rw [hs] at HINP'
      clear hB hC hD hv hs
      go_enter Try.func7, Try.ntmps7
      go_wp2_with (first
        | (go_at_call 9; rw [HW.out]; refine HBIG.out.mono ?_; rintro e w1 ⟨rfl, hb⟩; have n0 := Aside0.mk (below_step HX.out hb); clear HX hb; have HX := n0; clear n0; have p0 := ((bcell HX.out).1 _ 0 hz).trans k0; have p1 := ((bcell HX.out).1 _ 1 hz).trans k1; have p2 := ((bcell HX.out).1 _ 2 hz).trans k2; have p3 := ((bcell HX.out).1 _ 3 hz).trans k3; have p4 := ((bcell HX.out).1 _ 4 hz).trans k4)
        | (go_at_call 11; refine (HVAL.out _ HX.out).mono ?_; rintro e w2 ⟨rfl, hb⟩; have n0 := Aside0.mk (below_step HX.out hb); clear HX hb; have HX := n0; clear n0; clear p0 p1 p2 p3 p4; have p0 := ((bcell HX.out).1 _ 0 hz).trans k0; have p1 := ((bcell HX.out).1 _ 1 hz).trans k1; have p2 := ((bcell HX.out).1 _ 2 hz).trans k2; have p3 := ((bcell HX.out).1 _ 3 hz).trans k3; have p4 := ((bcell HX.out).1 _ 4 hz).trans k4)
        | (go_at_call 12; refine (HINP'.out _ HX.out).mono ?_; rintro e w2 ⟨rfl, hb⟩; have n0 := Aside0.mk (below_step HX.out hb); clear HX hb; have HX := n0; clear n0)
        | (go_at_call 10; refine (awake_walk _).mono ?_; rintro e w2 ⟨rfl, hb⟩; have n0 := Aside0.mk (below_step HX.out hb); clear HX hb; have HX := n0; clear n0))
      go_ret
      exact ⟨rfl, below_step HB0.out HX.out⟩
    | false =>
      obtain ⟨N, C, g1, g2, g3, g4, g5⟩ := HST.out hv hs (by omega) (by omega)
      have hsf : startF a0 a1 a2 l inp = ((C 0).s, (C 0).at_, (C 0).tp, 0) := by unfold startF; rw [if_neg (by rw [hv]; simp), if_neg (by rw [hs]; simp), g2]; rfl
      have HSTART : Aside0 (∀ (w : World) B cb D cd, Kd.C k54 w B l.length l → Kd.C (Kd.int .i64) w D inp.length inp → inp.length ≤ cd → Calls Try.prog 17 #[.agg #[.int .i64 a0, .int .i64 a1, .int .i64 a2, .slice B l.length cb], .slice D inp.length cd] w (AnsF w (C 0) fun v => .tuple #[v, .int .i64 0])) := ⟨fun w B cb D cd h1 h2 h3 => (start_walkF a0 a1 a2 B cb l D cd inp w h1 h2 h3).mono (fun e w' h => by rw [hsf] at h; exact ansF_start h)⟩
      have HRUN : Aside0 (∀ (w : World) B cb D cd, Kd.C k54 w B l.length l → Kd.C (Kd.int .i64) w D inp.length inp → inp.length ≤ cd → Calls Try.prog 19 #[.agg #[.int .i64 a0, .int .i64 a1, .int .i64 a2, .slice B l.length cb], .slice D inp.length cd, .int .i64 most] w (AnsF w (C N) fun v => .tuple #[v, .int .i64 N, .int .i64 0])) := ⟨fun w B cb D cd h1 h2 h3 => (Run_walkF a0 a1 a2 B cb l D cd inp most w h1 h2 h3).mono (fun e w' h => by rw [g3] at h; exact ansF_run h)⟩
      have HSTEP : Aside0 (∀ (i : Nat) (w : World) B cb v, Kd.C k54 w B l.length l → SceneV w v (C i).s (C i).at_ (C i).tp → Calls Try.prog 29 #[.agg #[.int .i64 a0, .int .i64 a1, .int .i64 a2, .slice B l.length cb], v] w (AnsF w (stepQ a0 a1 a2 l (C i).s (C i).at_ (C i).tp).1 fun v => .tuple #[v, .int .i64 (stepQ a0 a1 a2 l (C i).s (C i).at_ (C i).tp).2])) := ⟨fun i w B cb v q1 hv => by
        obtain ⟨X1, y1, X2, y2, rfl, _, z1, _, z2⟩ := hv
        exact (Step_walk a0 a1 a2 B cb l (C i).s X1 y1 (C i).at_ X2 y2 (C i).tp w q1 z1 z2).mono (fun e w' h => ansF_step h)⟩
      have HG1 : Aside0 ((N : Int) ≤ most) := ⟨g1⟩
      have HG4 := Aside0.mk g4
      have HG5 := Aside0.mk g5
      have HMO : Aside0 (0 ≤ most ∧ most ≤ 300) := ⟨by omega, by omega⟩
      rw [hv] at HVAL
      rw [hs] at HINP'
      clear hB hC hD hv hs g1 g2 g3 g4 g5 hsf HST HINP
      go_enter Try.func7, Try.ntmps7
      go_wp2_with (first
        | (go_at_call 9; rw [HW.out]; refine HBIG.out.mono ?_; rintro e w1 ⟨rfl, hb⟩; have n0 := Aside0.mk (below_step HX.out hb); clear HX hb; have HX := n0; clear n0; have p0 := ((bcell HX.out).1 _ 0 hz).trans k0; have p1 := ((bcell HX.out).1 _ 1 hz).trans k1; have p2 := ((bcell HX.out).1 _ 2 hz).trans k2; have p3 := ((bcell HX.out).1 _ 3 hz).trans k3; have p4 := ((bcell HX.out).1 _ 4 hz).trans k4)
        | (go_at_call 11; refine (HVAL.out _ HX.out).mono ?_; rintro e w2 ⟨rfl, hb⟩; have n0 := Aside0.mk (below_step HX.out hb); clear HX hb; have HX := n0; clear n0; clear p0 p1 p2 p3 p4; have p0 := ((bcell HX.out).1 _ 0 hz).trans k0; have p1 := ((bcell HX.out).1 _ 1 hz).trans k1; have p2 := ((bcell HX.out).1 _ 2 hz).trans k2; have p3 := ((bcell HX.out).1 _ 3 hz).trans k3; have p4 := ((bcell HX.out).1 _ 4 hz).trans k4)
        | (go_at_call 12; refine (HINP'.out _ HX.out).mono ?_; rintro e w3 ⟨rfl, hb⟩; have n0 := Aside0.mk (below_step HX.out hb); clear HX hb; have HX := n0; clear n0))
      clear p0 p1 p2 p3 p4 d1 d2 d3 HVAL HINP' HBIG
      have HB := HX
      clear HX
      -- REGION
      obtain ⟨hcc3, _⟩ := bcell HB.out
      refine start_ (n := 14) (S := fun w' => w'.cell? ⟨w.heap.size, 0, none⟩ = some (.int .i64 a0) ∧ w'.cell? ⟨w.heap.size, 1, none⟩ = some (.int .i64 a1) ∧ w'.cell? ⟨w.heap.size, 2, none⟩ = some (.int .i64 a2) ∧ w'.cell? ⟨w.heap.size, 3, none⟩ = some (.slice A l.length c) ∧ w'.cell? ⟨w.heap.size, 4, none⟩ = some (.slice A5 inp.length c5)) (ds := [12]) #[false, false, false, false, false, false, false, false, false, false, false, false, false, false] (by kernel_rfl) rfl rfl ⟨(hcc3 _ 0 hz).trans k0, (hcc3 _ 1 hz).trans k1, (hcc3 _ 2 hz).trans k2, (hcc3 _ 3 hz).trans k3, (hcc3 _ 4 hz).trans k4⟩ (fun hHeld => ?_); refine with_tabW regT3.tab regT3.bits (fun HT_ HW_ => ?_)
      clear hcc3
      have HDW := Aside0.mk (below_drew (Below.refl w3.heap.size w3))
      generalize w3.drew = X3 at HDW hHeld ⊢
      have HB_ := Aside0.mk (below_step HB.out HDW.out)
      clear HB HDW
      have HB := HB_
      clear HB_
      refine pure_ (i := 0) (N := some 47) (v := ?_) (a' := ?_) #[true, false, false, false, false, false, false, false, false, false, false, false, false, false] rfl rfl (any_of HT_.out (by kernel_rfl)) (fun _ _ _ h => h) (Or.inl ⟨by rfl, ?_⟩) ?_ ?_
      rotate_left
      · intro w'
        go_simp
        with_reducible rfl
      rotate_left
      · simp only [Act.put, List.setIfInBounds_toArray, List.set_cons_zero, List.set_cons_succ, i64_w, i32_w]
        rfl
      refine pure_ (i := 4) (N := some 51) (v := ?_) (a' := ?_) #[true, false, false, false, true, false, false, false, false, false, false, false, false, false] rfl rfl (any_of HT_.out (by kernel_rfl)) (fun _ _ _ h => h) (Or.inl ⟨by rfl, ?_⟩) ?_ ?_
      rotate_left
      · intro w'
        go_simp
        with_reducible rfl
      rotate_left
      · simp only [Act.put, List.setIfInBounds_toArray, List.set_cons_zero, List.set_cons_succ, i64_w, i32_w]
        rfl
      refine take_ (i := 1) (N := some 48) (v := ?_) (a' := ?_) #[true, true, false, false, true, false, false, false, false, false, false, false, false, false] rfl rfl (take_ofW HT_.out HW_.out (by kernel_rfl)) (fun _ _ _ h => h) (Or.inl ⟨by rfl, ?_⟩) hHeld ?_ ?_
      rotate_left
      · rintro w' ⟨s0, s1, s2, s3, s4⟩
        go_simp
        with_reducible rfl
      rotate_left
      · simp only [Act.put, List.setIfInBounds_toArray, List.set_cons_zero, List.set_cons_succ, i64_w, i32_w]
        rfl
      refine take_ (i := 5) (N := some 52) (v := ?_) (a' := ?_) #[true, true, false, false, true, true, false, false, false, false, false, false, false, false] rfl rfl (take_ofW HT_.out HW_.out (by kernel_rfl)) (fun _ _ _ h => h) (Or.inl ⟨by rfl, ?_⟩) hHeld ?_ ?_
      rotate_left
      · rintro w' ⟨s0, s1, s2, s3, s4⟩
        go_simp
        with_reducible rfl
      rotate_left
      · simp only [Act.put, List.setIfInBounds_toArray, List.set_cons_zero, List.set_cons_succ, i64_w, i32_w]
        rfl
      refine join_ (σ := Value × Value × Value × (Option Addr × Nat) × (Option Addr × Nat) × Nat) 2 #[true, true, true, true, true, true, true, true, true, true, true, true, false, false] (fun s_ => [(49, s_.1), (50, s_.2.1), (53, s_.2.2.1), (54, .tuple #[(scV (C 0) s_.2.2.2.1 s_.2.2.2.2.1), .int .i64 0]), (5, .pointer (some ⟨s_.2.2.2.2.2, 0, none⟩)), (46, .tuple #[(scV (C 0) s_.2.2.2.1 s_.2.2.2.2.1), .int .i64 0]), (55, (scV (C 0) s_.2.2.2.1 s_.2.2.2.2.1)), (56, .int .i64 0)]) (fun s_ w' => Below X3.heap.size X3 w' ∧ w'.heap[s_.2.2.2.2.2]? = some (.cells #[.int .i64 0, .slice none 0 0, .slice none 0 0] 32 (0, 0)) ∧ X3.heap.size ≤ s_.2.2.2.2.2 ∧ Foot X3.heap.size (some s_.2.2.2.2.2) w' (scV (C 0) s_.2.2.2.1 s_.2.2.2.2.1) (C 0)) ?_ ?_
      rotate_left
      · intro hCont
        refine law_invG2 (nt := 119) (bits := regT3.bits_) (i2 := 2) (i3 := 3) (i6 := 6) (i8 := 7) (i13 := 11) (s2 := 49) (s3 := 50) (s6 := 53) (s8 := 54) (s13 := 5) ⟨by decide, by decide, by decide, by decide, by decide, by decide, by decide, by decide, by decide, by decide, by decide, by decide, by decide⟩ (a0 := a0) (a1 := a1) (a2 := a2) (rs := l) (inp := inp) (R := ScR X3 (C 0) (fun v => .tuple #[v, .int .i64 0])) (p0 := false) (e0 := false) X3 (fun p b c_ d e h1 h1p h2 h3 h4 => by rw [ready_eq, HT_.out]; exact regT3.steps p b c_ d e h1 h1p h2 h3 h4) (o2 := _) (o3 := _) (o6 := _) (o8 := _) (o13 := _) rfl rfl rfl (fun _ => ⟨rfl, rfl, rfl, fun a_ w_ d_ x8_ x13_ hb_ hR_ => ⟨_, _, exec_alloc32 rfl, (Below.refl _ _).alloc (Nat.le_refl _) _, ScR_alloc hR_ hb_⟩⟩) (sM := 48) (sX := 52) (F := 17) _ rfl (A := A) (A5 := A5) (c := c) (c5 := c5) (fun _ => ⟨rfl, by decide, by decide, by decide, by decide, by decide, by decide, rfl, Kd.C_below HR.out HB.out, rfl, rfl, rfl⟩) ⟨rfl, rfl, rfl⟩ ⟨rfl, rfl, rfl⟩ ⟨rfl, rfl, rfl⟩ Try.func17 (by kernel_rfl) rfl (by decide) rfl (Kd.C_below H5.out HB.out) (by have := HS1.out; omega) (fun r hr => by have := HS3.out r hr; omega) (by have := HS2.out; omega) (fun w_ B cb_ D cd e1_ x8_ x13_ hb_ hR_ q1 q2 q3 => (HSTART.out w_ B cb_ D cd q1 q2 q3).mono (fun en w' h => ScR_call hb_ hR_ h)) ScR_keep (fun w' hb => ⟨pw_cell_below hb hHeld.1, pw_cell_below hb hHeld.2.1, pw_cell_below hb hHeld.2.2.1, pw_cell_below hb hHeld.2.2.2.1, pw_cell_below hb hHeld.2.2.2.2⟩) (by simp only [put5, Act.put, List.setIfInBounds_toArray, List.set_cons_zero, List.set_cons_succ]; rfl) trivial (fun h => by cases h) 5 5 rfl ?_ (fun h => ?_)
        · skip
          rintro x2 x3 x6 v x13 w4 hb4 ⟨⟨B1, d1⟩, ⟨B2, d2⟩, g, rfl, rfl, hg, hge, hsv⟩
          refine norm_ (a' := ?_) ?_ ?_
          rotate_left
          · simp only [put5, scV, Act.put, List.setIfInBounds_toArray, List.set_cons_zero, List.set_cons_succ]
            rfl
          refine pure_ (i := 8) (N := some 46) (v := ?_) (a' := ?_) #[true, true, true, true, true, true, true, true, true, false, false, true, false, false] rfl rfl (any_of HT_.out (by kernel_rfl)) (fun _ _ _ h => h) (Or.inl ⟨by rfl, ?_⟩) ?_ ?_
          rotate_left
          · intro w'
            go_simp
            with_reducible rfl
          rotate_left
          · simp only [Act.put, List.setIfInBounds_toArray, List.set_cons_zero, List.set_cons_succ, i64_w, i32_w]
            rfl
          refine pure_ (i := 9) (N := some 55) (v := ?_) (a' := ?_) #[true, true, true, true, true, true, true, true, true, true, false, true, false, false] rfl rfl (any_of HT_.out (by kernel_rfl)) (fun _ _ _ h => h) (Or.inl ⟨by rfl, ?_⟩) ?_ ?_
          rotate_left
          · intro w'
            go_simp
            with_reducible rfl
          rotate_left
          · simp only [Act.put, List.setIfInBounds_toArray, List.set_cons_zero, List.set_cons_succ, i64_w, i32_w]
            rfl
          refine pure_ (i := 10) (N := some 56) (v := ?_) (a' := ?_) #[true, true, true, true, true, true, true, true, true, true, true, true, false, false] rfl rfl (any_of HT_.out (by kernel_rfl)) (fun _ _ _ h => h) (Or.inl ⟨by rfl, ?_⟩) ?_ ?_
          rotate_left
          · intro w'
            go_simp
            with_reducible rfl
          rotate_left
          · simp only [Act.put, List.setIfInBounds_toArray, List.set_cons_zero, List.set_cons_succ, i64_w, i32_w]
            rfl
          exact norm_ (by simp only [putAll, Act.put, List.setIfInBounds_toArray, List.set_cons_zero, List.set_cons_succ]; rfl) (hCont (x2, x3, x6, (B1, d1), (B2, d2), g) _ ⟨hb4, hg, hge, hsv⟩)
        · skip
          clear h
          rintro x2 x3 x6 v x13 w4 hb4 ⟨⟨B1, d1⟩, ⟨B2, d2⟩, rfl, hsv⟩
          refine norm_ (a' := ?_) ?_ ?_
          rotate_left
          · simp only [put5, scV, Act.put, List.setIfInBounds_toArray, List.set_cons_zero, List.set_cons_succ]
            rfl
          refine pure_ (i := 8) (N := some 46) (v := ?_) (a' := ?_) #[true, true, true, true, true, true, true, true, true, false, false, false, false, false] rfl rfl (any_of HT_.out (by kernel_rfl)) (fun _ _ _ h => h) (Or.inl ⟨by rfl, ?_⟩) ?_ ?_
          rotate_left
          · intro w'
            go_simp
            with_reducible rfl
          rotate_left
          · simp only [Act.put, List.setIfInBounds_toArray, List.set_cons_zero, List.set_cons_succ, i64_w, i32_w]
            rfl
          refine pure_ (i := 9) (N := some 55) (v := ?_) (a' := ?_) #[true, true, true, true, true, true, true, true, true, true, false, false, false, false] rfl rfl (any_of HT_.out (by kernel_rfl)) (fun _ _ _ h => h) (Or.inl ⟨by rfl, ?_⟩) ?_ ?_
          rotate_left
          · intro w'
            go_simp
            with_reducible rfl
          rotate_left
          · simp only [Act.put, List.setIfInBounds_toArray, List.set_cons_zero, List.set_cons_succ, i64_w, i32_w]
            rfl
          refine pure_ (i := 10) (N := some 56) (v := ?_) (a' := ?_) #[true, true, true, true, true, true, true, true, true, true, true, false, false, false] rfl rfl (any_of HT_.out (by kernel_rfl)) (fun _ _ _ h => h) (Or.inl ⟨by rfl, ?_⟩) ?_ ?_
          rotate_left
          · intro w'
            go_simp
            with_reducible rfl
          rotate_left
          · simp only [Act.put, List.setIfInBounds_toArray, List.set_cons_zero, List.set_cons_succ, i64_w, i32_w]
            rfl
          refine one_ (i := 11) (N := some 5) #[true, true, true, true, true, true, true, true, true, true, true, true, false, false] rfl rfl (one_of HT_.out (by kernel_rfl)) (by decide) (fun K hK => ?_)
          refine event_step (by rfl) (exec_alloc32 rfl) ?_
          have hb5 : Below X3.heap.size X3 (w4.alloc (.cells #[.int .i64 0, .slice none 0 0, .slice none 0 0] 32)) := hb4.alloc hb4.size _
          refine hK.out _ _ ⟨pw_cell_below hb5 hHeld.1, pw_cell_below hb5 hHeld.2.1, pw_cell_below hb5 hHeld.2.2.1, pw_cell_below hb5 hHeld.2.2.2.1, pw_cell_below hb5 hHeld.2.2.2.2⟩ (fun hHeld2 => ?_)
          clear hK K
          exact norm_ (by simp only [putAll, Act.put, List.setIfInBounds_toArray, List.set_cons_zero, List.set_cons_succ]; rfl) (hCont (x2, x3, x6, (B1, d1), (B2, d2), w4.heap.size) _ ⟨hb5, heap_alloc_new _ _, hb4.size, hsv.alloc _⟩)
      rintro ⟨x2, x3, x6, ⟨B1, d1⟩, ⟨B2, d2⟩, g3⟩ w4 ⟨hb4, hg, hge, hsv⟩
      have HB4 := Aside0.mk hb4
      have HGE : Aside0 (X3.heap.size ≤ g3) := ⟨hge⟩
      have HGG := Aside0.mk hg
      have HSV := Aside0.mk hsv
      clear hb4 hg hge hsv
      refine norm_ (a' := ?_) ?_ ?_
      rotate_left
      · simp only [put5, putAll, scV, Act.put, List.setIfInBounds_toArray, List.set_cons_zero, List.set_cons_succ]
        rfl
      refine last_ (i := 12) (N := none) #[true, true, true, true, true, true, true, true, true, true, true, true, true, false] rfl rfl (one_of HT_.out (by kernel_rfl)) (by decide) (fun K hK => ?_)
      obtain ⟨y0, y1, y2⟩ := trio_cells HGG.out
      have z0 := run_frozen HGG.out 0
      have z1 := run_frozen HGG.out 1
      have z2 := run_frozen HGG.out 2
      refine skip_ (w1 := ?_) (by rfl) rfl ?_ ?_
      rotate_left
      · go_simp
        rfl
      refine hK.out _ _ ?_
      clear hK K
      clear y0 y1 y2 z0 z1 z2
      refine pure_ (i := 13) (N := some 6) (v := ?_) (a' := ?_) #[true, true, true, true, true, true, true, true, true, true, true, true, true, true] rfl rfl (any_of HT_.out (by kernel_rfl)) (fun _ _ _ h => h) (Or.inl ⟨by rfl, ?_⟩) ?_ ?_
      rotate_left
      · intro w'
        go_simp
        with_reducible rfl
      rotate_left
      · simp only [Act.put, List.setIfInBounds_toArray, List.set_cons_zero, List.set_cons_succ, i64_w, i32_w]
        rfl
      refine done_ (done_of HT_.out (by kernel_rfl)) ?_
      obtain ⟨V3, hV3⟩ : ∃ V, ((w4.setCell ⟨g3, 0, none⟩ (.int .i64 ((C 0)).s)).setCell ⟨g3, 1, none⟩ (.slice B1 ((C 0)).at_.length d1)).setCell ⟨g3, 2, none⟩ (.slice B2 ((C 0)).tp.length d2) = V := ⟨_, rfl⟩
      have HBV : Aside0 (Below X3.heap.size X3 V3) := ⟨by rw [← hV3]; exact ((HB4.out.setCell (p := ⟨g3, 0, none⟩) HGE.out _).setCell (p := ⟨g3, 1, none⟩) HGE.out _).setCell (p := ⟨g3, 2, none⟩) HGE.out _⟩
      have HGV : Aside0 (V3.heap[g3]? = some (.cells #[.int .i64 ((C 0)).s, .slice B1 ((C 0)).at_.length d1, .slice B2 ((C 0)).tp.length d2] 32 (0, 0))) := ⟨by rw [← hV3]; exact set3s HGG.out _ _ _⟩
      have HFV : Aside0 (Foot X3.heap.size (some g3) V3 (.agg #[.int .i64 ((C 0)).s, .slice B1 ((C 0)).at_.length d1, .slice B2 ((C 0)).tp.length d2]) ((C 0))) := ⟨by rw [← hV3]; exact HSV.out.set (grown3 w4 g3 _ _ _) (.inr rfl)⟩
      rw [hV3]
      clear HB4 HGG HSV hV3 hHeld HT_ HW_
      have HGC : Aside0 (W.heap.size ≤ g3) := ⟨Nat.le_trans HB.out.size HGE.out⟩
      have HB_ := Aside0.mk (below_step HB.out HBV.out)
      obtain ⟨pc, hpc⟩ : ∃ p, Value.slice B1 (C 0).at_.length d1 = p := ⟨_, rfl⟩
      obtain ⟨rc, hrc⟩ : ∃ p, Value.slice B2 (C 0).tp.length d2 = p := ⟨_, rfl⟩
      rw [hpc, hrc] at HGV HFV
      have HAT : Aside0 (V3.heap[g3]? = some (.cells #[.int .i64 (C 0).s, pc, rc] 32 (0, 0)) ∧ SceneV V3 (.agg #[.int .i64 (C 0).s, pc, rc]) (C 0).s (C 0).at_ (C 0).tp) := ⟨⟨HGV.out, HFV.out.now⟩⟩
      clear HB HBV HGV HFV HGE hpc hrc
      have HB := HB_
      clear HB_
      go_wp2_with fail
      obtain ⟨hcc4, _⟩ := bcell HB.out
      refine start_ (n := 17) (S := fun w' => w'.cell? ⟨w.heap.size, 0, none⟩ = some (.int .i64 a0) ∧ w'.cell? ⟨w.heap.size, 1, none⟩ = some (.int .i64 a1) ∧ w'.cell? ⟨w.heap.size, 2, none⟩ = some (.int .i64 a2) ∧ w'.cell? ⟨w.heap.size, 3, none⟩ = some (.slice A l.length c) ∧ w'.cell? ⟨w.heap.size, 4, none⟩ = some (.slice A5 inp.length c5)) (ds := [14]) #[false, false, false, false, false, false, false, false, false, false, false, false, false, false, false, false, false] (by kernel_rfl) rfl rfl ⟨(hcc4 _ 0 hz).trans k0, (hcc4 _ 1 hz).trans k1, (hcc4 _ 2 hz).trans k2, (hcc4 _ 3 hz).trans k3, (hcc4 _ 4 hz).trans k4⟩ (fun hHeld => ?_); refine with_tabW regT4.tab regT4.bits (fun HT_ HW_ => ?_)
      clear hcc4
      have HDW := Aside0.mk (below_drew (Below.refl V3.heap.size V3))
      generalize V3.drew = X4 at HDW hHeld ⊢
      have HB_ := Aside0.mk (below_step HB.out HDW.out)
      have HAT_ := Aside0.mk (And.intro (heap_keep HAT.out.1 HDW.out) (SceneV_below HAT.out.2 HDW.out))
      clear HB HAT HDW
      have HB := HB_
      have HAT := HAT_
      clear HB_ HAT_
      refine pure_ (i := 0) (N := some 58) (v := ?_) (a' := ?_) #[true, false, false, false, false, false, false, false, false, false, false, false, false, false, false, false, false] rfl rfl (any_of HT_.out (by kernel_rfl)) (fun _ _ _ h => h) (Or.inl ⟨by rfl, ?_⟩) ?_ ?_
      rotate_left
      · intro w'
        go_simp
        with_reducible rfl
      rotate_left
      · simp only [Act.put, List.setIfInBounds_toArray, List.set_cons_zero, List.set_cons_succ, i64_w, i32_w]
        rfl
      refine pure_ (i := 4) (N := some 62) (v := ?_) (a' := ?_) #[true, false, false, false, true, false, false, false, false, false, false, false, false, false, false, false, false] rfl rfl (any_of HT_.out (by kernel_rfl)) (fun _ _ _ h => h) (Or.inl ⟨by rfl, ?_⟩) ?_ ?_
      rotate_left
      · intro w'
        go_simp
        with_reducible rfl
      rotate_left
      · simp only [Act.put, List.setIfInBounds_toArray, List.set_cons_zero, List.set_cons_succ, i64_w, i32_w]
        rfl
      refine pure_ (i := 7) (N := some 65) (v := ?_) (a' := ?_) #[true, false, false, false, true, false, false, true, false, false, false, false, false, false, false, false, false] rfl rfl (any_of HT_.out (by kernel_rfl)) (fun _ _ _ h => h) (Or.inl ⟨by rfl, ?_⟩) ?_ ?_
      rotate_left
      · intro w'
        go_simp
        with_reducible rfl
      rotate_left
      · simp only [Act.put, List.setIfInBounds_toArray, List.set_cons_zero, List.set_cons_succ, i64_w, i32_w]
        rfl
      refine take_ (i := 1) (N := some 59) (v := ?_) (a' := ?_) #[true, true, false, false, true, false, false, true, false, false, false, false, false, false, false, false, false] rfl rfl (take_ofW HT_.out HW_.out (by kernel_rfl)) (fun _ _ _ h => h) (Or.inl ⟨by rfl, ?_⟩) hHeld ?_ ?_
      rotate_left
      · rintro w' ⟨s0, s1, s2, s3, s4⟩
        go_simp
        with_reducible rfl
      rotate_left
      · simp only [Act.put, List.setIfInBounds_toArray, List.set_cons_zero, List.set_cons_succ, i64_w, i32_w]
        rfl
      refine take_ (i := 5) (N := some 63) (v := ?_) (a' := ?_) #[true, true, false, false, true, true, false, true, false, false, false, false, false, false, false, false, false] rfl rfl (take_ofW HT_.out HW_.out (by kernel_rfl)) (fun _ _ _ h => h) (Or.inl ⟨by rfl, ?_⟩) hHeld ?_ ?_
      rotate_left
      · rintro w' ⟨s0, s1, s2, s3, s4⟩
        go_simp
        with_reducible rfl
      rotate_left
      · simp only [Act.put, List.setIfInBounds_toArray, List.set_cons_zero, List.set_cons_succ, i64_w, i32_w]
        rfl
      refine join_ (σ := Value × Value × Value × (Option Addr × Nat) × (Option Addr × Nat) × Nat) 3 #[true, true, true, true, true, true, true, true, true, true, true, true, true, true, false, false, false] (fun s_ => [(60, s_.1), (61, s_.2.1), (64, s_.2.2.1), (66, .tuple #[(scV (C N) s_.2.2.2.1 s_.2.2.2.2.1), .int .i64 N, .int .i64 0]), (7, .pointer (some ⟨s_.2.2.2.2.2, 0, none⟩)), (57, .tuple #[(scV (C N) s_.2.2.2.1 s_.2.2.2.2.1), .int .i64 N, .int .i64 0]), (67, (scV (C N) s_.2.2.2.1 s_.2.2.2.2.1)), (68, .int .i64 N), (69, .int .i64 0)]) (fun s_ w' => Below X4.heap.size X4 w' ∧ w'.heap[s_.2.2.2.2.2]? = some (.cells #[.int .i64 0, .slice none 0 0, .slice none 0 0] 32 (0, 0)) ∧ X4.heap.size ≤ s_.2.2.2.2.2 ∧ Foot X4.heap.size (some s_.2.2.2.2.2) w' (scV (C N) s_.2.2.2.1 s_.2.2.2.2.1) (C N)) ?_ ?_
      rotate_left
      · intro hCont
        refine law_invG (nt := 119) (bits := regT4.bits_) (i2 := 2) (i3 := 3) (i6 := 6) (i8 := 8) (i13 := 13) (s2 := 60) (s3 := 61) (s6 := 64) (s8 := 66) (s13 := 7) ⟨by decide, by decide, by decide, by decide, by decide, by decide, by decide, by decide, by decide, by decide, by decide, by decide, by decide⟩ (a0 := a0) (a1 := a1) (a2 := a2) (rs := l) (inp := inp) (R := ScR X4 (C N) (fun v => .tuple #[v, .int .i64 N, .int .i64 0])) (p0 := false) (e0 := false) X4 (fun p b c_ d e h1 h1p h2 h3 h4 => by rw [ready_eq, HT_.out]; exact regT4.steps p b c_ d e h1 h1p h2 h3 h4) (o2 := _) (o3 := _) (o6 := _) (o8 := _) (o13 := _) rfl rfl rfl (fun _ => ⟨rfl, rfl, rfl, fun a_ w_ d_ x8_ x13_ hb_ hR_ => ⟨_, _, exec_alloc32 rfl, (Below.refl _ _).alloc (Nat.le_refl _) _, ScR_alloc hR_ hb_⟩⟩) (sM := 59) (sX := 63) (sN := 65) (F := 19) _ rfl (A := A) (A5 := A5) (c := c) (c5 := c5) (m := most) (fun _ => ⟨rfl, by decide, by decide, by decide, by decide, by decide, by decide, rfl, Kd.C_below HR.out HB.out, rfl, rfl, rfl⟩) ⟨rfl, rfl, rfl⟩ ⟨rfl, rfl, rfl⟩ ⟨rfl, rfl, rfl⟩ Try.func19 (by kernel_rfl) rfl (by decide) (by decide) rfl rfl (Kd.C_below H5.out HB.out) (by have := HS1.out; omega) (fun r hr => by have := HS3.out r hr; omega) (by have := HS2.out; omega) (fun w_ B cb_ D cd e1_ x8_ x13_ hb_ hR_ q1 q2 q3 => (HRUN.out w_ B cb_ D cd q1 q2 q3).mono (fun en w' h => ScR_call hb_ hR_ h)) ScR_keep (fun w' hb => ⟨pw_cell_below hb hHeld.1, pw_cell_below hb hHeld.2.1, pw_cell_below hb hHeld.2.2.1, pw_cell_below hb hHeld.2.2.2.1, pw_cell_below hb hHeld.2.2.2.2⟩) (by simp only [put5, Act.put, List.setIfInBounds_toArray, List.set_cons_zero, List.set_cons_succ]; rfl) trivial (fun h => by cases h) 7 5 rfl ?_ (fun h => ?_)
        · skip
          rintro x2 x3 x6 v x13 w4 hb4 ⟨⟨B1, d1⟩, ⟨B2, d2⟩, g, rfl, rfl, hg, hge, hsv⟩
          refine norm_ (a' := ?_) ?_ ?_
          rotate_left
          · simp only [put5, scV, Act.put, List.setIfInBounds_toArray, List.set_cons_zero, List.set_cons_succ]
            rfl
          refine pure_ (i := 9) (N := some 57) (v := ?_) (a' := ?_) #[true, true, true, true, true, true, true, true, true, true, false, false, false, true, false, false, false] rfl rfl (any_of HT_.out (by kernel_rfl)) (fun _ _ _ h => h) (Or.inl ⟨by rfl, ?_⟩) ?_ ?_
          rotate_left
          · intro w'
            go_simp
            with_reducible rfl
          rotate_left
          · simp only [Act.put, List.setIfInBounds_toArray, List.set_cons_zero, List.set_cons_succ, i64_w, i32_w]
            rfl
          refine pure_ (i := 10) (N := some 67) (v := ?_) (a' := ?_) #[true, true, true, true, true, true, true, true, true, true, true, false, false, true, false, false, false] rfl rfl (any_of HT_.out (by kernel_rfl)) (fun _ _ _ h => h) (Or.inl ⟨by rfl, ?_⟩) ?_ ?_
          rotate_left
          · intro w'
            go_simp
            with_reducible rfl
          rotate_left
          · simp only [Act.put, List.setIfInBounds_toArray, List.set_cons_zero, List.set_cons_succ, i64_w, i32_w]
            rfl
          refine pure_ (i := 11) (N := some 68) (v := ?_) (a' := ?_) #[true, true, true, true, true, true, true, true, true, true, true, true, false, true, false, false, false] rfl rfl (any_of HT_.out (by kernel_rfl)) (fun _ _ _ h => h) (Or.inl ⟨by rfl, ?_⟩) ?_ ?_
          rotate_left
          · intro w'
            go_simp
            with_reducible rfl
          rotate_left
          · simp only [Act.put, List.setIfInBounds_toArray, List.set_cons_zero, List.set_cons_succ, i64_w, i32_w]
            rfl
          refine pure_ (i := 12) (N := some 69) (v := ?_) (a' := ?_) #[true, true, true, true, true, true, true, true, true, true, true, true, true, true, false, false, false] rfl rfl (any_of HT_.out (by kernel_rfl)) (fun _ _ _ h => h) (Or.inl ⟨by rfl, ?_⟩) ?_ ?_
          rotate_left
          · intro w'
            go_simp
            with_reducible rfl
          rotate_left
          · simp only [Act.put, List.setIfInBounds_toArray, List.set_cons_zero, List.set_cons_succ, i64_w, i32_w]
            rfl
          exact norm_ (by simp only [putAll, Act.put, List.setIfInBounds_toArray, List.set_cons_zero, List.set_cons_succ]; rfl) (hCont (x2, x3, x6, (B1, d1), (B2, d2), g) _ ⟨hb4, hg, hge, hsv⟩)
        · skip
          clear h
          rintro x2 x3 x6 v x13 w4 hb4 ⟨⟨B1, d1⟩, ⟨B2, d2⟩, rfl, hsv⟩
          refine norm_ (a' := ?_) ?_ ?_
          rotate_left
          · simp only [put5, scV, Act.put, List.setIfInBounds_toArray, List.set_cons_zero, List.set_cons_succ]
            rfl
          refine pure_ (i := 9) (N := some 57) (v := ?_) (a' := ?_) #[true, true, true, true, true, true, true, true, true, true, false, false, false, false, false, false, false] rfl rfl (any_of HT_.out (by kernel_rfl)) (fun _ _ _ h => h) (Or.inl ⟨by rfl, ?_⟩) ?_ ?_
          rotate_left
          · intro w'
            go_simp
            with_reducible rfl
          rotate_left
          · simp only [Act.put, List.setIfInBounds_toArray, List.set_cons_zero, List.set_cons_succ, i64_w, i32_w]
            rfl
          refine pure_ (i := 10) (N := some 67) (v := ?_) (a' := ?_) #[true, true, true, true, true, true, true, true, true, true, true, false, false, false, false, false, false] rfl rfl (any_of HT_.out (by kernel_rfl)) (fun _ _ _ h => h) (Or.inl ⟨by rfl, ?_⟩) ?_ ?_
          rotate_left
          · intro w'
            go_simp
            with_reducible rfl
          rotate_left
          · simp only [Act.put, List.setIfInBounds_toArray, List.set_cons_zero, List.set_cons_succ, i64_w, i32_w]
            rfl
          refine pure_ (i := 11) (N := some 68) (v := ?_) (a' := ?_) #[true, true, true, true, true, true, true, true, true, true, true, true, false, false, false, false, false] rfl rfl (any_of HT_.out (by kernel_rfl)) (fun _ _ _ h => h) (Or.inl ⟨by rfl, ?_⟩) ?_ ?_
          rotate_left
          · intro w'
            go_simp
            with_reducible rfl
          rotate_left
          · simp only [Act.put, List.setIfInBounds_toArray, List.set_cons_zero, List.set_cons_succ, i64_w, i32_w]
            rfl
          refine pure_ (i := 12) (N := some 69) (v := ?_) (a' := ?_) #[true, true, true, true, true, true, true, true, true, true, true, true, true, false, false, false, false] rfl rfl (any_of HT_.out (by kernel_rfl)) (fun _ _ _ h => h) (Or.inl ⟨by rfl, ?_⟩) ?_ ?_
          rotate_left
          · intro w'
            go_simp
            with_reducible rfl
          rotate_left
          · simp only [Act.put, List.setIfInBounds_toArray, List.set_cons_zero, List.set_cons_succ, i64_w, i32_w]
            rfl
          refine one_ (i := 13) (N := some 7) #[true, true, true, true, true, true, true, true, true, true, true, true, true, true, false, false, false] rfl rfl (one_of HT_.out (by kernel_rfl)) (by decide) (fun K hK => ?_)
          refine event_step (by rfl) (exec_alloc32 rfl) ?_
          have hb5 : Below X4.heap.size X4 (w4.alloc (.cells #[.int .i64 0, .slice none 0 0, .slice none 0 0] 32)) := hb4.alloc hb4.size _
          refine hK.out _ _ ⟨pw_cell_below hb5 hHeld.1, pw_cell_below hb5 hHeld.2.1, pw_cell_below hb5 hHeld.2.2.1, pw_cell_below hb5 hHeld.2.2.2.1, pw_cell_below hb5 hHeld.2.2.2.2⟩ (fun hHeld2 => ?_)
          clear hK K
          exact norm_ (by simp only [putAll, Act.put, List.setIfInBounds_toArray, List.set_cons_zero, List.set_cons_succ]; rfl) (hCont (x2, x3, x6, (B1, d1), (B2, d2), w4.heap.size) _ ⟨hb5, heap_alloc_new _ _, hb4.size, hsv.alloc _⟩)
      rintro ⟨x2, x3, x6, ⟨B1, d1⟩, ⟨B2, d2⟩, g4⟩ w4 ⟨hb4, hg, hge, hsv⟩
      have HB4 := Aside0.mk hb4
      have HGE : Aside0 (X4.heap.size ≤ g4) := ⟨hge⟩
      have HGG := Aside0.mk hg
      have HSV := Aside0.mk hsv
      clear hb4 hg hge hsv
      refine norm_ (a' := ?_) ?_ ?_
      rotate_left
      · simp only [put5, putAll, scV, Act.put, List.setIfInBounds_toArray, List.set_cons_zero, List.set_cons_succ]
        rfl
      refine last_ (i := 14) (N := none) #[true, true, true, true, true, true, true, true, true, true, true, true, true, true, true, false, false] rfl rfl (one_of HT_.out (by kernel_rfl)) (by decide) (fun K hK => ?_)
      obtain ⟨y0, y1, y2⟩ := trio_cells HGG.out
      have z0 := run_frozen HGG.out 0
      have z1 := run_frozen HGG.out 1
      have z2 := run_frozen HGG.out 2
      refine skip_ (w1 := ?_) (by rfl) rfl ?_ ?_
      rotate_left
      · go_simp
        rfl
      refine hK.out _ _ ?_
      clear hK K
      clear y0 y1 y2 z0 z1 z2
      refine pure_ (i := 15) (N := some 8) (v := ?_) (a' := ?_) #[true, true, true, true, true, true, true, true, true, true, true, true, true, true, true, true, false] rfl rfl (any_of HT_.out (by kernel_rfl)) (fun _ _ _ h => h) (Or.inl ⟨by rfl, ?_⟩) ?_ ?_
      rotate_left
      · intro w'
        go_simp
        with_reducible rfl
      rotate_left
      · simp only [Act.put, List.setIfInBounds_toArray, List.set_cons_zero, List.set_cons_succ, i64_w, i32_w]
        rfl
      refine pure_ (i := 16) (N := some 9) (v := ?_) (a' := ?_) #[true, true, true, true, true, true, true, true, true, true, true, true, true, true, true, true, true] rfl rfl (any_of HT_.out (by kernel_rfl)) (fun _ _ _ h => h) (Or.inl ⟨by rfl, ?_⟩) ?_ ?_
      rotate_left
      · intro w'
        go_simp
        with_reducible rfl
      rotate_left
      · simp only [Act.put, List.setIfInBounds_toArray, List.set_cons_zero, List.set_cons_succ, i64_w, i32_w]
        rfl
      refine done_ (done_of HT_.out (by kernel_rfl)) ?_
      obtain ⟨V4, hV4⟩ : ∃ V, ((w4.setCell ⟨g4, 0, none⟩ (.int .i64 ((C N)).s)).setCell ⟨g4, 1, none⟩ (.slice B1 ((C N)).at_.length d1)).setCell ⟨g4, 2, none⟩ (.slice B2 ((C N)).tp.length d2) = V := ⟨_, rfl⟩
      have HBV : Aside0 (Below X4.heap.size X4 V4) := ⟨by rw [← hV4]; exact ((HB4.out.setCell (p := ⟨g4, 0, none⟩) HGE.out _).setCell (p := ⟨g4, 1, none⟩) HGE.out _).setCell (p := ⟨g4, 2, none⟩) HGE.out _⟩
      have HGV : Aside0 (V4.heap[g4]? = some (.cells #[.int .i64 ((C N)).s, .slice B1 ((C N)).at_.length d1, .slice B2 ((C N)).tp.length d2] 32 (0, 0))) := ⟨by rw [← hV4]; exact set3s HGG.out _ _ _⟩
      have HFV : Aside0 (Foot X4.heap.size (some g4) V4 (.agg #[.int .i64 ((C N)).s, .slice B1 ((C N)).at_.length d1, .slice B2 ((C N)).tp.length d2]) ((C N))) := ⟨by rw [← hV4]; exact HSV.out.set (grown3 w4 g4 _ _ _) (.inr rfl)⟩
      rw [hV4]
      clear HB4 HGG HSV hV4 hHeld HT_ HW_
      obtain ⟨pd, hpd⟩ : ∃ p, Value.slice B1 (C N).at_.length d1 = p := ⟨_, rfl⟩
      obtain ⟨rd', hrd⟩ : ∃ p, Value.slice B2 (C N).tp.length d2 = p := ⟨_, rfl⟩
      rw [hpd, hrd] at HGV HFV
      have HAT_ : Aside0 (StepsAt W V4 X4.heap.size g3 g4 pc rc pd rd' (C 0) (C N)) := ⟨⟨below_step HB.out HBV.out, heap_keep HAT.out.1 HBV.out, SceneV_below HAT.out.2 HBV.out, HGV.out, HFV.out, HGC.out, (Array.getElem?_eq_some_iff.1 HAT.out.1).1, HGE.out⟩⟩
      clear HB HBV HGV HFV HGE hpd hrd HAT HGC
      have HAT := HAT_
      clear HAT_
      have hn3 : (N : Int) ≤ 300 := by have := HG1.out; have := HMO.out; omega
      go_wp2_with fail
      go_loopg [10] N (fun gg v10 wr => ∃ (i : Nat) (p r : Value), v10 = .int .i64 i ∧ Aside0 (i ≤ N) ∧ Aside0 (N - i = gg) ∧ Aside0 (StepsAt W wr X4.heap.size g3 g4 p r pd rd' (C i) (C N)))
      case atStart => exact ⟨0, pc, rc, rfl, ⟨Nat.zero_le _⟩, ⟨rfl⟩, HAT⟩
      case round =>
        clear HAT
        obtain ⟨i, p, r, rfl, HI, HG, HAT⟩ := hrel
        by_cases ci : i < N
        · have cib : decide (i < N) = true := decide_eq_true ci
          have CI : Aside0 (i < N) := ⟨by omega⟩
          have hi0 : (i : Int) ≤ 300 := by omega
          have hii : (0 : Int) ≤ (i : Int) := by omega
          have HB := Aside0.mk HAT.out.below
          have HSI : Aside0 (∀ (w : World) B cb v, Kd.C k54 w B l.length l → SceneV w v (C i).s (C i).at_ (C i).tp → Calls Try.prog 29 #[.agg #[.int .i64 a0, .int .i64 a1, .int .i64 a2, .slice B l.length cb], v] w (AnsF w (C (i + 1)) fun v => .tuple #[v, .int .i64 0])) := ⟨fun w B cb v q1 hv => by
            have h := HSTEP.out i w B cb v q1 hv
            rw [HG4.out i CI.out] at h
            exact h⟩
          obtain ⟨nx, hnx⟩ : ∃ x, C (i + 1) = x := ⟨_, rfl⟩
          rw [hnx] at HSI
          have HNX := Aside0.mk hnx
          clear hnx
          go_wp2_with fail
          clear ci
          obtain ⟨n0, n1, n2⟩ := trio_cells HAT.out.cells
          obtain ⟨hcc10, _⟩ := bcell HB.out
          refine start_ (n := 11) (S := fun w' => w'.cell? ⟨w.heap.size, 0, none⟩ = some (.int .i64 a0) ∧ w'.cell? ⟨w.heap.size, 1, none⟩ = some (.int .i64 a1) ∧ w'.cell? ⟨w.heap.size, 2, none⟩ = some (.int .i64 a2) ∧ w'.cell? ⟨w.heap.size, 3, none⟩ = some (.slice A l.length c) ∧ w'.cell? ⟨w.heap.size, 4, none⟩ = some (.slice A5 inp.length c5) ∧ w'.cell? ⟨g3, 0, none⟩ = some (.int .i64 (C i).s) ∧ w'.cell? ⟨g3, 1, none⟩ = some p ∧ w'.cell? ⟨g3, 2, none⟩ = some r) (ds := [9]) #[false, false, false, false, false, false, false, false, false, false, false] (by kernel_rfl) rfl rfl ⟨(hcc10 _ 0 hz).trans k0, (hcc10 _ 1 hz).trans k1, (hcc10 _ 2 hz).trans k2, (hcc10 _ 3 hz).trans k3, (hcc10 _ 4 hz).trans k4, n0, n1, n2⟩ (fun hHeld => ?_); refine with_tabW regT10.tab regT10.bits (fun HT_ HW_ => ?_)
          clear hcc10
          clear n0 n1 n2
          have HDW := Aside0.mk (below_drew (Below.refl wr.heap.size wr))
          generalize wr.drew = X10 at HDW hHeld ⊢
          have HB_ := Aside0.mk (below_step HB.out HDW.out)
          have HAT_ := Aside0.mk (HAT.out.keep HDW.out)
          clear HB HAT HDW
          have HB := HB_
          have HAT := HAT_
          clear HB_ HAT_
          refine pure_ (i := 0) (N := some 82) (v := ?_) (a' := ?_) #[true, false, false, false, false, false, false, false, false, false, false] rfl rfl (any_of HT_.out (by kernel_rfl)) (fun _ _ _ h => h) (Or.inl ⟨by rfl, ?_⟩) ?_ ?_
          rotate_left
          · intro w'
            go_simp
            with_reducible rfl
          rotate_left
          · simp only [Act.put, List.setIfInBounds_toArray, List.set_cons_zero, List.set_cons_succ, i64_w, i32_w]
            rfl
          refine take_ (i := 1) (N := some 83) (v := ?_) (a' := ?_) #[true, true, false, false, false, false, false, false, false, false, false] rfl rfl (take_ofW HT_.out HW_.out (by kernel_rfl)) (fun _ _ _ h => h) (Or.inl ⟨by rfl, ?_⟩) hHeld ?_ ?_
          rotate_left
          · rintro w' ⟨s0, s1, s2, s3, s4, s5, s6, s7⟩
            go_simp
            with_reducible rfl
          rotate_left
          · simp only [Act.put, List.setIfInBounds_toArray, List.set_cons_zero, List.set_cons_succ, i64_w, i32_w]
            rfl
          refine take_ (i := 3) (N := some 85) (v := ?_) (a' := ?_) #[true, true, false, true, false, false, false, false, false, false, false] rfl rfl (take_ofW HT_.out HW_.out (by kernel_rfl)) (fun _ _ _ h => h) (Or.inl ⟨by rfl, ?_⟩) hHeld ?_ ?_
          rotate_left
          · rintro w' ⟨s0, s1, s2, s3, s4, s5, s6, s7⟩
            go_simp
            with_reducible rfl
          rotate_left
          · simp only [Act.put, List.setIfInBounds_toArray, List.set_cons_zero, List.set_cons_succ, i64_w, i32_w]
            rfl
          refine join_ (σ := Value × Value × (Option Addr × Nat) × (Option Addr × Nat) × Nat) 2 #[true, true, true, true, true, true, true, true, true, false, false] (fun s_ => [(84, s_.1), (85, s_.2.1), (86, .tuple #[(scV nx s_.2.2.1 s_.2.2.2.1), .int .i64 0]), (11, .pointer (some ⟨s_.2.2.2.2, 0, none⟩)), (81, .tuple #[(scV nx s_.2.2.1 s_.2.2.2.1), .int .i64 0]), (87, (scV nx s_.2.2.1 s_.2.2.2.1)), (88, .int .i64 0)]) (fun s_ w' => Below X10.heap.size X10 w' ∧ w'.heap[s_.2.2.2.2]? = some (.cells #[.int .i64 0, .slice none 0 0, .slice none 0 0] 32 (0, 0)) ∧ X10.heap.size ≤ s_.2.2.2.2 ∧ Foot X10.heap.size (some s_.2.2.2.2) w' (scV nx s_.2.2.1 s_.2.2.2.1) nx) ?_ ?_
          rotate_left
          · intro hCont
            refine law_invS (nt := 119) (bits := regT10.bits_) (i2 := 2) (i3 := 99) (i8 := 4) (i13 := 8) (s2 := 84) (s3 := 85) (s6 := 118) (s8 := 86) (s13 := 11) ⟨by decide, by decide, by decide, by decide, by decide, by decide, by decide, by decide, by decide, by decide, by decide, by decide, by decide⟩ (a0 := a0) (a1 := a1) (a2 := a2) (rs := l) (s := (C i).s) (at_ := (C i).at_) (tp := (C i).tp) (R := ScR X10 nx (fun v => .tuple #[v, .int .i64 0])) (b0 := true) (e0 := false) X10 (fun p b d e h1 h1p h2 h3 h4 => by rw [ready_eq, HT_.out]; exact regT10.steps p b d e h1 h1p h2 h3 h4) (o2 := _) (o3 := default) (o8 := _) (o13 := _) rfl rfl (fun _ => ⟨rfl, rfl, rfl, fun a_ w_ d_ x8_ x13_ hb_ hR_ => ⟨_, _, exec_alloc32 rfl, (Below.refl _ _).alloc (Nat.le_refl _) _, ScR_alloc hR_ hb_⟩⟩) (sM := 83) (sX := 0) (F := 29) _ rfl (A := A) (c := c) ⟨by decide, by decide, by decide, by decide, by decide, by decide, rfl, Kd.C_below HR.out HB.out, rfl, rfl, rfl⟩ (vc := .int .i64 0) (fun h => by cases h) ⟨rfl, rfl, rfl⟩ Try.func29 (by kernel_rfl) rfl (by have := HS1.out; omega) (fun r hr => by have := HS3.out r hr; omega) (fun w_ B cb_ v e1_ x8_ x13_ hb_ hR_ q1 q2 => (HSI.out w_ B cb_ v q1 q2).mono (fun en w' h => ScR_call hb_ hR_ h)) ScR_keep (fun w' hb => ⟨pw_cell_below hb hHeld.1, pw_cell_below hb hHeld.2.1, pw_cell_below hb hHeld.2.2.1, pw_cell_below hb hHeld.2.2.2.1, pw_cell_below hb hHeld.2.2.2.2.1, pw_cell_below hb hHeld.2.2.2.2.2.1, pw_cell_below hb hHeld.2.2.2.2.2.2.1, pw_cell_below hb hHeld.2.2.2.2.2.2.2⟩) (by simp only [put5, Act.put, List.setIfInBounds_toArray, List.set_cons_zero, List.set_cons_succ]; rfl) trivial (fun _ => HAT.out.cur) 5 3 rfl ?_ (fun h => ?_)
            · skip
              rintro x2 x3 v x13 w4 hb4 ⟨⟨B1, d1⟩, ⟨B2, d2⟩, g, rfl, rfl, hg, hge, hsv⟩
              refine norm_ (a' := ?_) ?_ ?_
              rotate_left
              · simp only [put5, scV, Act.put, List.setIfInBounds_toArray, List.set_cons_zero, List.set_cons_succ]
                rfl
              refine pure_ (i := 5) (N := some 81) (v := ?_) (a' := ?_) #[true, true, true, true, true, true, false, false, true, false, false] rfl rfl (any_of HT_.out (by kernel_rfl)) (fun _ _ _ h => h) (Or.inl ⟨by rfl, ?_⟩) ?_ ?_
              rotate_left
              · intro w'
                go_simp
                with_reducible rfl
              rotate_left
              · simp only [Act.put, List.setIfInBounds_toArray, List.set_cons_zero, List.set_cons_succ, i64_w, i32_w]
                rfl
              refine pure_ (i := 6) (N := some 87) (v := ?_) (a' := ?_) #[true, true, true, true, true, true, true, false, true, false, false] rfl rfl (any_of HT_.out (by kernel_rfl)) (fun _ _ _ h => h) (Or.inl ⟨by rfl, ?_⟩) ?_ ?_
              rotate_left
              · intro w'
                go_simp
                with_reducible rfl
              rotate_left
              · simp only [Act.put, List.setIfInBounds_toArray, List.set_cons_zero, List.set_cons_succ, i64_w, i32_w]
                rfl
              refine pure_ (i := 7) (N := some 88) (v := ?_) (a' := ?_) #[true, true, true, true, true, true, true, true, true, false, false] rfl rfl (any_of HT_.out (by kernel_rfl)) (fun _ _ _ h => h) (Or.inl ⟨by rfl, ?_⟩) ?_ ?_
              rotate_left
              · intro w'
                go_simp
                with_reducible rfl
              rotate_left
              · simp only [Act.put, List.setIfInBounds_toArray, List.set_cons_zero, List.set_cons_succ, i64_w, i32_w]
                rfl
              exact norm_ (by simp only [putAll, Act.put, List.setIfInBounds_toArray, List.set_cons_zero, List.set_cons_succ]; rfl) (hCont (x2, x3, (B1, d1), (B2, d2), g) _ ⟨hb4, hg, hge, hsv⟩)
            · skip
              clear h
              rintro x2 x3 v x13 w4 hb4 ⟨⟨B1, d1⟩, ⟨B2, d2⟩, rfl, hsv⟩
              refine norm_ (a' := ?_) ?_ ?_
              rotate_left
              · simp only [put5, scV, Act.put, List.setIfInBounds_toArray, List.set_cons_zero, List.set_cons_succ]
                rfl
              refine pure_ (i := 5) (N := some 81) (v := ?_) (a' := ?_) #[true, true, true, true, true, true, false, false, false, false, false] rfl rfl (any_of HT_.out (by kernel_rfl)) (fun _ _ _ h => h) (Or.inl ⟨by rfl, ?_⟩) ?_ ?_
              rotate_left
              · intro w'
                go_simp
                with_reducible rfl
              rotate_left
              · simp only [Act.put, List.setIfInBounds_toArray, List.set_cons_zero, List.set_cons_succ, i64_w, i32_w]
                rfl
              refine pure_ (i := 6) (N := some 87) (v := ?_) (a' := ?_) #[true, true, true, true, true, true, true, false, false, false, false] rfl rfl (any_of HT_.out (by kernel_rfl)) (fun _ _ _ h => h) (Or.inl ⟨by rfl, ?_⟩) ?_ ?_
              rotate_left
              · intro w'
                go_simp
                with_reducible rfl
              rotate_left
              · simp only [Act.put, List.setIfInBounds_toArray, List.set_cons_zero, List.set_cons_succ, i64_w, i32_w]
                rfl
              refine pure_ (i := 7) (N := some 88) (v := ?_) (a' := ?_) #[true, true, true, true, true, true, true, true, false, false, false] rfl rfl (any_of HT_.out (by kernel_rfl)) (fun _ _ _ h => h) (Or.inl ⟨by rfl, ?_⟩) ?_ ?_
              rotate_left
              · intro w'
                go_simp
                with_reducible rfl
              rotate_left
              · simp only [Act.put, List.setIfInBounds_toArray, List.set_cons_zero, List.set_cons_succ, i64_w, i32_w]
                rfl
              refine one_ (i := 8) (N := some 11) #[true, true, true, true, true, true, true, true, true, false, false] rfl rfl (one_of HT_.out (by kernel_rfl)) (by decide) (fun K hK => ?_)
              refine event_step (by rfl) (exec_alloc32 rfl) ?_
              have hb5 : Below X10.heap.size X10 (w4.alloc (.cells #[.int .i64 0, .slice none 0 0, .slice none 0 0] 32)) := hb4.alloc hb4.size _
              refine hK.out _ _ ⟨pw_cell_below hb5 hHeld.1, pw_cell_below hb5 hHeld.2.1, pw_cell_below hb5 hHeld.2.2.1, pw_cell_below hb5 hHeld.2.2.2.1, pw_cell_below hb5 hHeld.2.2.2.2.1, pw_cell_below hb5 hHeld.2.2.2.2.2.1, pw_cell_below hb5 hHeld.2.2.2.2.2.2.1, pw_cell_below hb5 hHeld.2.2.2.2.2.2.2⟩ (fun hHeld2 => ?_)
              clear hK K
              exact norm_ (by simp only [putAll, Act.put, List.setIfInBounds_toArray, List.set_cons_zero, List.set_cons_succ]; rfl) (hCont (x2, x3, (B1, d1), (B2, d2), w4.heap.size) _ ⟨hb5, heap_alloc_new _ _, hb4.size, hsv.alloc _⟩)
          rintro ⟨x2, x3, ⟨B1, d1⟩, ⟨B2, d2⟩, g10⟩ w4 ⟨hb4, hg, hge, hsv⟩
          have HB4 := Aside0.mk hb4
          have HGE : Aside0 (X10.heap.size ≤ g10) := ⟨hge⟩
          have HGG := Aside0.mk hg
          have HSV := Aside0.mk hsv
          clear hb4 hg hge hsv
          refine norm_ (a' := ?_) ?_ ?_
          rotate_left
          · simp only [put5, putAll, scV, Act.put, List.setIfInBounds_toArray, List.set_cons_zero, List.set_cons_succ]
            rfl
          refine last_ (i := 9) (N := none) #[true, true, true, true, true, true, true, true, true, true, false] rfl rfl (one_of HT_.out (by kernel_rfl)) (by decide) (fun K hK => ?_)
          obtain ⟨y0, y1, y2⟩ := trio_cells HGG.out
          have z0 := run_frozen HGG.out 0
          have z1 := run_frozen HGG.out 1
          have z2 := run_frozen HGG.out 2
          refine skip_ (w1 := ?_) (by rfl) rfl ?_ ?_
          rotate_left
          · go_simp
            rfl
          refine hK.out _ _ ?_
          clear hK K
          clear y0 y1 y2 z0 z1 z2
          refine pure_ (i := 10) (N := some 12) (v := ?_) (a' := ?_) #[true, true, true, true, true, true, true, true, true, true, true] rfl rfl (any_of HT_.out (by kernel_rfl)) (fun _ _ _ h => h) (Or.inl ⟨by rfl, ?_⟩) ?_ ?_
          rotate_left
          · intro w'
            go_simp
            with_reducible rfl
          rotate_left
          · simp only [Act.put, List.setIfInBounds_toArray, List.set_cons_zero, List.set_cons_succ, i64_w, i32_w]
            rfl
          refine done_ (done_of HT_.out (by kernel_rfl)) ?_
          obtain ⟨V10, hV10⟩ : ∃ V, ((w4.setCell ⟨g10, 0, none⟩ (.int .i64 (nx).s)).setCell ⟨g10, 1, none⟩ (.slice B1 (nx).at_.length d1)).setCell ⟨g10, 2, none⟩ (.slice B2 (nx).tp.length d2) = V := ⟨_, rfl⟩
          have HBV : Aside0 (Below X10.heap.size X10 V10) := ⟨by rw [← hV10]; exact ((HB4.out.setCell (p := ⟨g10, 0, none⟩) HGE.out _).setCell (p := ⟨g10, 1, none⟩) HGE.out _).setCell (p := ⟨g10, 2, none⟩) HGE.out _⟩
          have HGV : Aside0 (V10.heap[g10]? = some (.cells #[.int .i64 (nx).s, .slice B1 (nx).at_.length d1, .slice B2 (nx).tp.length d2] 32 (0, 0))) := ⟨by rw [← hV10]; exact set3s HGG.out _ _ _⟩
          have HFV : Aside0 (Foot X10.heap.size (some g10) V10 (.agg #[.int .i64 (nx).s, .slice B1 (nx).at_.length d1, .slice B2 (nx).tp.length d2]) (nx)) := ⟨by rw [← hV10]; exact HSV.out.set (grown3 w4 g10 _ _ _) (.inr rfl)⟩
          rw [hV10]
          clear HB4 HGG HSV hV10 hHeld HT_ HW_
          have HNEXT := Aside0.mk (HAT.out.next HBV.out HFV.out)
          have hgc' := heap_keep HAT.out.cells HBV.out
          obtain ⟨y0, y1, y2⟩ := trio_cells hgc'
          have z0 := run_frozen hgc' 0
          have z1 := run_frozen hgc' 1
          have z2 := run_frozen hgc' 2
          obtain ⟨v0, v1, v2⟩ := trio_cells HGV.out
          clear hgc' HBV HGV HFV HGE HAT HB
          go_wp2_with fail
          go_roundg (N - (i + 1))
          case measure => have := HG.out; have := CI.out; omega
          case rel =>
            refine ⟨i + 1, .slice B1 nx.at_.length d1, .slice B2 nx.tp.length d2, ?_, ⟨CI.out⟩, ⟨rfl⟩, ?_⟩
            · first | rfl | (rw [show wrap64 ((i : Int) + 1) = ((i + 1 : Nat) : Int) by rw [w64_up (by omega) (by omega)]; rfl]) | (simp; done)
            · rw [HNX.out]; exact HNEXT
        · have cib : decide (i < N) = false := decide_eq_false ci
          obtain rfl : i = N := by have := HI.out; omega
          have cir : decide (i < i) = false := by simp
          clear ci cib
          have HB := Aside0.mk HAT.out.below
          obtain ⟨n0, n1, n2⟩ := trio_cells HAT.out.cells
          obtain ⟨v0, v1, v2⟩ := trio_cells HAT.out.dcells
          have hml : decide (most < (i : Int)) = false := decide_eq_false (by have := HG1.out; omega)
          have HSAME := Aside0.mk (same_C HAT.out.cur HAT.out.foot.now)
          go_wp2_with (go_at_call 22; refine HSAME.out.mono ?_; rintro e w13 ⟨rfl, hb⟩; have hat := Aside0.mk (HAT.out.keep hb); clear HAT HB hb HSAME; have HAT := hat; clear hat; have HB := Aside0.mk HAT.out.below)
          clear n0 n1 n2 v0 v1 v2
          obtain ⟨qN, hqN⟩ : ∃ q, stepQ a0 a1 a2 l (C i).s (C i).at_ (C i).tp = q := ⟨_, rfl⟩
          have HSN := Aside0.mk (HSTEP.out i)
          rw [hqN] at HSN
          have HEN : Aside0 ((i : Int) < most → qN.2 = 6) := ⟨fun h => by rw [← hqN]; exact HG5.out h⟩
          clear hqN
          obtain ⟨n0, n1, n2⟩ := trio_cells HAT.out.cells
          obtain ⟨hcc16, _⟩ := bcell HB.out
          refine start_ (n := 11) (S := fun w' => w'.cell? ⟨w.heap.size, 0, none⟩ = some (.int .i64 a0) ∧ w'.cell? ⟨w.heap.size, 1, none⟩ = some (.int .i64 a1) ∧ w'.cell? ⟨w.heap.size, 2, none⟩ = some (.int .i64 a2) ∧ w'.cell? ⟨w.heap.size, 3, none⟩ = some (.slice A l.length c) ∧ w'.cell? ⟨w.heap.size, 4, none⟩ = some (.slice A5 inp.length c5) ∧ w'.cell? ⟨g3, 0, none⟩ = some (.int .i64 (C i).s) ∧ w'.cell? ⟨g3, 1, none⟩ = some p ∧ w'.cell? ⟨g3, 2, none⟩ = some r) (ds := [9]) #[false, false, false, false, false, false, false, false, false, false, false] (by kernel_rfl) rfl rfl ⟨(hcc16 _ 0 hz).trans k0, (hcc16 _ 1 hz).trans k1, (hcc16 _ 2 hz).trans k2, (hcc16 _ 3 hz).trans k3, (hcc16 _ 4 hz).trans k4, n0, n1, n2⟩ (fun hHeld => ?_); refine with_tabW regT16.tab regT16.bits (fun HT_ HW_ => ?_)
          clear hcc16
          clear n0 n1 n2
          have HDW := Aside0.mk (below_drew (Below.refl w13.heap.size w13))
          generalize w13.drew = X16 at HDW hHeld ⊢
          have HB_ := Aside0.mk (below_step HB.out HDW.out)
          have HAT_ := Aside0.mk (HAT.out.keep HDW.out)
          clear HB HAT HDW
          have HB := HB_
          have HAT := HAT_
          clear HB_ HAT_
          refine pure_ (i := 0) (N := some 102) (v := ?_) (a' := ?_) #[true, false, false, false, false, false, false, false, false, false, false] rfl rfl (any_of HT_.out (by kernel_rfl)) (fun _ _ _ h => h) (Or.inl ⟨by rfl, ?_⟩) ?_ ?_
          rotate_left
          · intro w'
            go_simp
            with_reducible rfl
          rotate_left
          · simp only [Act.put, List.setIfInBounds_toArray, List.set_cons_zero, List.set_cons_succ, i64_w, i32_w]
            rfl
          refine take_ (i := 1) (N := some 103) (v := ?_) (a' := ?_) #[true, true, false, false, false, false, false, false, false, false, false] rfl rfl (take_ofW HT_.out HW_.out (by kernel_rfl)) (fun _ _ _ h => h) (Or.inl ⟨by rfl, ?_⟩) hHeld ?_ ?_
          rotate_left
          · rintro w' ⟨s0, s1, s2, s3, s4, s5, s6, s7⟩
            go_simp
            with_reducible rfl
          rotate_left
          · simp only [Act.put, List.setIfInBounds_toArray, List.set_cons_zero, List.set_cons_succ, i64_w, i32_w]
            rfl
          refine take_ (i := 3) (N := some 105) (v := ?_) (a' := ?_) #[true, true, false, true, false, false, false, false, false, false, false] rfl rfl (take_ofW HT_.out HW_.out (by kernel_rfl)) (fun _ _ _ h => h) (Or.inl ⟨by rfl, ?_⟩) hHeld ?_ ?_
          rotate_left
          · rintro w' ⟨s0, s1, s2, s3, s4, s5, s6, s7⟩
            go_simp
            with_reducible rfl
          rotate_left
          · simp only [Act.put, List.setIfInBounds_toArray, List.set_cons_zero, List.set_cons_succ, i64_w, i32_w]
            rfl
          refine join_ (σ := Value × Value × (Option Addr × Nat) × (Option Addr × Nat) × Nat) 2 #[true, true, true, true, true, true, true, true, true, false, false] (fun s_ => [(104, s_.1), (105, s_.2.1), (106, .tuple #[(scV qN.1 s_.2.2.1 s_.2.2.2.1), .int .i64 qN.2]), (13, .pointer (some ⟨s_.2.2.2.2, 0, none⟩)), (101, .tuple #[(scV qN.1 s_.2.2.1 s_.2.2.2.1), .int .i64 qN.2]), (107, (scV qN.1 s_.2.2.1 s_.2.2.2.1)), (108, .int .i64 qN.2)]) (fun s_ w' => Below X16.heap.size X16 w' ∧ w'.heap[s_.2.2.2.2]? = some (.cells #[.int .i64 0, .slice none 0 0, .slice none 0 0] 32 (0, 0)) ∧ X16.heap.size ≤ s_.2.2.2.2 ∧ Foot X16.heap.size (some s_.2.2.2.2) w' (scV qN.1 s_.2.2.1 s_.2.2.2.1) qN.1) ?_ ?_
          rotate_left
          · intro hCont
            refine law_invS (nt := 119) (bits := regT16.bits_) (i2 := 2) (i3 := 99) (i8 := 4) (i13 := 8) (s2 := 104) (s3 := 105) (s6 := 118) (s8 := 106) (s13 := 13) ⟨by decide, by decide, by decide, by decide, by decide, by decide, by decide, by decide, by decide, by decide, by decide, by decide, by decide⟩ (a0 := a0) (a1 := a1) (a2 := a2) (rs := l) (s := (C i).s) (at_ := (C i).at_) (tp := (C i).tp) (R := ScR X16 qN.1 (fun v => .tuple #[v, .int .i64 qN.2])) (b0 := true) (e0 := false) X16 (fun p b d e h1 h1p h2 h3 h4 => by rw [ready_eq, HT_.out]; exact regT16.steps p b d e h1 h1p h2 h3 h4) (o2 := _) (o3 := default) (o8 := _) (o13 := _) rfl rfl (fun _ => ⟨rfl, rfl, rfl, fun a_ w_ d_ x8_ x13_ hb_ hR_ => ⟨_, _, exec_alloc32 rfl, (Below.refl _ _).alloc (Nat.le_refl _) _, ScR_alloc hR_ hb_⟩⟩) (sM := 103) (sX := 0) (F := 29) _ rfl (A := A) (c := c) ⟨by decide, by decide, by decide, by decide, by decide, by decide, rfl, Kd.C_below HR.out HB.out, rfl, rfl, rfl⟩ (vc := .int .i64 0) (fun h => by cases h) ⟨rfl, rfl, rfl⟩ Try.func29 (by kernel_rfl) rfl (by have := HS1.out; omega) (fun r hr => by have := HS3.out r hr; omega) (fun w_ B cb_ v e1_ x8_ x13_ hb_ hR_ q1 q2 => (HSN.out w_ B cb_ v q1 q2).mono (fun en w' h => ScR_call hb_ hR_ h)) ScR_keep (fun w' hb => ⟨pw_cell_below hb hHeld.1, pw_cell_below hb hHeld.2.1, pw_cell_below hb hHeld.2.2.1, pw_cell_below hb hHeld.2.2.2.1, pw_cell_below hb hHeld.2.2.2.2.1, pw_cell_below hb hHeld.2.2.2.2.2.1, pw_cell_below hb hHeld.2.2.2.2.2.2.1, pw_cell_below hb hHeld.2.2.2.2.2.2.2⟩) (by simp only [put5, Act.put, List.setIfInBounds_toArray, List.set_cons_zero, List.set_cons_succ]; rfl) trivial (fun _ => HAT.out.cur) 5 3 rfl ?_ (fun h => ?_)
            · skip
              rintro x2 x3 v x13 w4 hb4 ⟨⟨B1, d1⟩, ⟨B2, d2⟩, g, rfl, rfl, hg, hge, hsv⟩
              refine norm_ (a' := ?_) ?_ ?_
              rotate_left
              · simp only [put5, scV, Act.put, List.setIfInBounds_toArray, List.set_cons_zero, List.set_cons_succ]
                rfl
              refine pure_ (i := 5) (N := some 101) (v := ?_) (a' := ?_) #[true, true, true, true, true, true, false, false, true, false, false] rfl rfl (any_of HT_.out (by kernel_rfl)) (fun _ _ _ h => h) (Or.inl ⟨by rfl, ?_⟩) ?_ ?_
              rotate_left
              · intro w'
                go_simp
                with_reducible rfl
              rotate_left
              · simp only [Act.put, List.setIfInBounds_toArray, List.set_cons_zero, List.set_cons_succ, i64_w, i32_w]
                rfl
              refine pure_ (i := 6) (N := some 107) (v := ?_) (a' := ?_) #[true, true, true, true, true, true, true, false, true, false, false] rfl rfl (any_of HT_.out (by kernel_rfl)) (fun _ _ _ h => h) (Or.inl ⟨by rfl, ?_⟩) ?_ ?_
              rotate_left
              · intro w'
                go_simp
                with_reducible rfl
              rotate_left
              · simp only [Act.put, List.setIfInBounds_toArray, List.set_cons_zero, List.set_cons_succ, i64_w, i32_w]
                rfl
              refine pure_ (i := 7) (N := some 108) (v := ?_) (a' := ?_) #[true, true, true, true, true, true, true, true, true, false, false] rfl rfl (any_of HT_.out (by kernel_rfl)) (fun _ _ _ h => h) (Or.inl ⟨by rfl, ?_⟩) ?_ ?_
              rotate_left
              · intro w'
                go_simp
                with_reducible rfl
              rotate_left
              · simp only [Act.put, List.setIfInBounds_toArray, List.set_cons_zero, List.set_cons_succ, i64_w, i32_w]
                rfl
              exact norm_ (by simp only [putAll, Act.put, List.setIfInBounds_toArray, List.set_cons_zero, List.set_cons_succ]; rfl) (hCont (x2, x3, (B1, d1), (B2, d2), g) _ ⟨hb4, hg, hge, hsv⟩)
            · skip
              clear h
              rintro x2 x3 v x13 w4 hb4 ⟨⟨B1, d1⟩, ⟨B2, d2⟩, rfl, hsv⟩
              refine norm_ (a' := ?_) ?_ ?_
              rotate_left
              · simp only [put5, scV, Act.put, List.setIfInBounds_toArray, List.set_cons_zero, List.set_cons_succ]
                rfl
              refine pure_ (i := 5) (N := some 101) (v := ?_) (a' := ?_) #[true, true, true, true, true, true, false, false, false, false, false] rfl rfl (any_of HT_.out (by kernel_rfl)) (fun _ _ _ h => h) (Or.inl ⟨by rfl, ?_⟩) ?_ ?_
              rotate_left
              · intro w'
                go_simp
                with_reducible rfl
              rotate_left
              · simp only [Act.put, List.setIfInBounds_toArray, List.set_cons_zero, List.set_cons_succ, i64_w, i32_w]
                rfl
              refine pure_ (i := 6) (N := some 107) (v := ?_) (a' := ?_) #[true, true, true, true, true, true, true, false, false, false, false] rfl rfl (any_of HT_.out (by kernel_rfl)) (fun _ _ _ h => h) (Or.inl ⟨by rfl, ?_⟩) ?_ ?_
              rotate_left
              · intro w'
                go_simp
                with_reducible rfl
              rotate_left
              · simp only [Act.put, List.setIfInBounds_toArray, List.set_cons_zero, List.set_cons_succ, i64_w, i32_w]
                rfl
              refine pure_ (i := 7) (N := some 108) (v := ?_) (a' := ?_) #[true, true, true, true, true, true, true, true, false, false, false] rfl rfl (any_of HT_.out (by kernel_rfl)) (fun _ _ _ h => h) (Or.inl ⟨by rfl, ?_⟩) ?_ ?_
              rotate_left
              · intro w'
                go_simp
                with_reducible rfl
              rotate_left
              · simp only [Act.put, List.setIfInBounds_toArray, List.set_cons_zero, List.set_cons_succ, i64_w, i32_w]
                rfl
              refine one_ (i := 8) (N := some 13) #[true, true, true, true, true, true, true, true, true, false, false] rfl rfl (one_of HT_.out (by kernel_rfl)) (by decide) (fun K hK => ?_)
              refine event_step (by rfl) (exec_alloc32 rfl) ?_
              have hb5 : Below X16.heap.size X16 (w4.alloc (.cells #[.int .i64 0, .slice none 0 0, .slice none 0 0] 32)) := hb4.alloc hb4.size _
              refine hK.out _ _ ⟨pw_cell_below hb5 hHeld.1, pw_cell_below hb5 hHeld.2.1, pw_cell_below hb5 hHeld.2.2.1, pw_cell_below hb5 hHeld.2.2.2.1, pw_cell_below hb5 hHeld.2.2.2.2.1, pw_cell_below hb5 hHeld.2.2.2.2.2.1, pw_cell_below hb5 hHeld.2.2.2.2.2.2.1, pw_cell_below hb5 hHeld.2.2.2.2.2.2.2⟩ (fun hHeld2 => ?_)
              clear hK K
              exact norm_ (by simp only [putAll, Act.put, List.setIfInBounds_toArray, List.set_cons_zero, List.set_cons_succ]; rfl) (hCont (x2, x3, (B1, d1), (B2, d2), w4.heap.size) _ ⟨hb5, heap_alloc_new _ _, hb4.size, hsv.alloc _⟩)
          rintro ⟨x2, x3, ⟨B1, d1⟩, ⟨B2, d2⟩, g16⟩ w4 ⟨hb4, hg, hge, hsv⟩
          have HB4 := Aside0.mk hb4
          have HGE : Aside0 (X16.heap.size ≤ g16) := ⟨hge⟩
          have HGG := Aside0.mk hg
          have HSV := Aside0.mk hsv
          clear hb4 hg hge hsv
          refine norm_ (a' := ?_) ?_ ?_
          rotate_left
          · simp only [put5, putAll, scV, Act.put, List.setIfInBounds_toArray, List.set_cons_zero, List.set_cons_succ]
            rfl
          refine last_ (i := 9) (N := none) #[true, true, true, true, true, true, true, true, true, true, false] rfl rfl (one_of HT_.out (by kernel_rfl)) (by decide) (fun K hK => ?_)
          obtain ⟨y0, y1, y2⟩ := trio_cells HGG.out
          have z0 := run_frozen HGG.out 0
          have z1 := run_frozen HGG.out 1
          have z2 := run_frozen HGG.out 2
          refine skip_ (w1 := ?_) (by rfl) rfl ?_ ?_
          rotate_left
          · go_simp
            rfl
          refine hK.out _ _ ?_
          clear hK K
          clear y0 y1 y2 z0 z1 z2
          refine pure_ (i := 10) (N := some 14) (v := ?_) (a' := ?_) #[true, true, true, true, true, true, true, true, true, true, true] rfl rfl (any_of HT_.out (by kernel_rfl)) (fun _ _ _ h => h) (Or.inl ⟨by rfl, ?_⟩) ?_ ?_
          rotate_left
          · intro w'
            go_simp
            with_reducible rfl
          rotate_left
          · simp only [Act.put, List.setIfInBounds_toArray, List.set_cons_zero, List.set_cons_succ, i64_w, i32_w]
            rfl
          refine done_ (done_of HT_.out (by kernel_rfl)) ?_
          obtain ⟨V16, hV16⟩ : ∃ V, ((w4.setCell ⟨g16, 0, none⟩ (.int .i64 (qN.1).s)).setCell ⟨g16, 1, none⟩ (.slice B1 (qN.1).at_.length d1)).setCell ⟨g16, 2, none⟩ (.slice B2 (qN.1).tp.length d2) = V := ⟨_, rfl⟩
          have HBV : Aside0 (Below X16.heap.size X16 V16) := ⟨by rw [← hV16]; exact ((HB4.out.setCell (p := ⟨g16, 0, none⟩) HGE.out _).setCell (p := ⟨g16, 1, none⟩) HGE.out _).setCell (p := ⟨g16, 2, none⟩) HGE.out _⟩
          have HGV : Aside0 (V16.heap[g16]? = some (.cells #[.int .i64 (qN.1).s, .slice B1 (qN.1).at_.length d1, .slice B2 (qN.1).tp.length d2] 32 (0, 0))) := ⟨by rw [← hV16]; exact set3s HGG.out _ _ _⟩
          have HFV : Aside0 (Foot X16.heap.size (some g16) V16 (.agg #[.int .i64 (qN.1).s, .slice B1 (qN.1).at_.length d1, .slice B2 (qN.1).tp.length d2]) (qN.1)) := ⟨by rw [← hV16]; exact HSV.out.set (grown3 w4 g16 _ _ _) (.inr rfl)⟩
          rw [hV16]
          clear HB4 HGG HSV hV16 hHeld HT_ HW_
          have HBZ := Aside0.mk (below_step HB.out HBV.out)
          clear HB HBV HGV HFV HGE HAT
          have HB := HBZ
          clear HBZ
          have hfin : (((i : Int) == most) = true) ∨ (((i : Int) == most) = false ∧ qN.2 = 6) := by
            by_cases h : (i : Int) = most
            · left; simpa using h
            · right; exact ⟨by simpa using h, HEN.out (by have := HG1.out; omega)⟩
          rcases hfin with h9 | ⟨h9, h10⟩
          · go_wp2_with (go_at_call 10; refine (awake_walk _).mono ?_; rintro e w14 ⟨rfl, hb⟩; have hB13 := Aside0.mk (below_step HB.out hb); clear HB hb; have HB := hB13; clear hB13)
            go_ret
            exact ⟨rfl, below_step HB0.out HB.out⟩
          · rw [h10]
            go_wp2_with (go_at_call 10; refine (awake_walk _).mono ?_; rintro e w14 ⟨rfl, hb⟩; have hB13 := Aside0.mk (below_step HB.out hb); clear HB hb; have HB := hB13; clear hB13)
            go_ret
            exact ⟨rfl, below_step HB0.out HB.out⟩
      -- END
end Go.Proofs.Ytfoodfhhdbaieaa.Giv
