-- CUT by a program of this session: what the claim does not use is left out
import Derived.Test.YtfoodfhhdbaieaaDoorT13
namespace Go.Proofs.YtfoodfhhdbaieaaDoor.Giv
set_option maxRecDepth 100000
set_option linter.unusedSimpArgs false
set_option linter.unusedVariables false
open Go.RowKit Go.Proofs.YtfoodfhhdbaieaaDoorW.PrintWords Go.Proofs.YtfoodfhhdbaieaaDoorW.PrintLast Go.Proofs.YtfoodfhhdbaieaaDoorW.PrintMore
open Go.Proofs.YtfoodfhhdbaieaaDoor.Ka (S40 k40 z40 rd_T40 at_T40 k40_open k40_mk rd_L1 at_L1 info3 info38 info40)

theorem make_row (W : World) (base : Nat) (t e : TypeId) (z : Value) (bytes : Nat) (ht : Tryd.prog.underlying t = some (.slice e)) (hinfo : (Tryd.prog.info? e).map (fun i => (i.zero, i.size, i.bytes)) = some (some z, 1, bytes)) (hz : z.cells = #[z]) (hby : bytes ≤ 100) (n : Nat) (hn : n ≤ 3) (hbase : base ≤ W.heap.size) :
  ∃ w', (Instr.makeSlice t (.int .i64 (n : Int)) (.int .i64 (n : Int))).run Tryd.prog W = .ok (.slice (some ⟨W.heap.size, 0, none⟩) n n) w' ∧ w'.ownsRow base e 1 (.slice (some ⟨W.heap.size, 0, none⟩) n n) n (List.replicate n z) ∧ W.grownBy w' none := by
 obtain ⟨i, hi, hzz⟩ := Option.map_eq_some_iff.1 hinfo
 obtain ⟨h3, h4, h5⟩ : i.zero = some z ∧ i.size = 1 ∧ i.bytes = bytes := by
  injection hzz with e1 e2; injection e2 with e2 e3; exact ⟨e1, e2, e3⟩
 obtain ⟨w', r1, r2, r3⟩ := run_make_full (P := Tryd.prog) W base t e i z 1 ht hi h3 h4 .i64 .i64 n (by rw [h5]; have : bytes * n ≤ 100 * 3 := Nat.mul_le_mul hby hn; omega) (by unfold maxLen; omega) hbase
 refine ⟨w', r1, ?_, r3⟩
 rw [hz, Nat.mul_one, toList_madeCells_one] at r2
 exact r2
theorem exec_make {o : Oper} {a : Act} {W w' : World} {X Y v' : Value} (x y : Operand) (t : TypeId) (hop : o.op = Op.makeSlice t x y) (hx : a.eval x = X) (hy : a.eval y = Y) (hrun : (Instr.makeSlice t X Y).run Tryd.prog W = .ok v' w') : (execOp a.eval o).run Tryd.prog W = .ok (.value v') w' := by
 unfold execOp
 simp only [hop, hx, hy]
 simp [hrun, Result.andThen]
theorem rep_zero {n : Nat} {z : Value} (h : 1 ≤ n) : (List.replicate n z)[0]? = some z := by
 cases n with
 | zero => omega
 | succ n => rfl
def startBad (a1 : Int) (inp : List Int) : Bool := decide (20000 < (inp.length : Int)) || inp.any (outB a1)
def startF (a0 a1 a2 : Int) (l : List S40) (inp : List Int) : Int × List Int × List (List Int) × Int :=
 if validM a0 a1 a2 l = false then (0, [], [], 1) else if startBad a1 inp = true then (0, [], [], 2) else (0, List.replicate a2.toNat 0, trimL inp :: List.replicate (a2.toNat - 1) [], 0)
def StartOut (w : World) (q : Int × List Int × List (List Int) × Int) (e : Ending) (w' : World) : Prop := ∃ v, e = .returned (.tuple #[v, .int .i64 q.2.2.2]) ∧ SceneV w' v q.1 q.2.1 q.2.2.1 ∧ Below w.heap.size w w'
def StartOutF (w : World) (q : Int × List Int × List (List Int) × Int) (e : Ending) (w' : World) : Prop := ∃ v, e = .returned (.tuple #[v, .int .i64 q.2.2.2]) ∧ (∀ u : World, (∀ k, w.heap.size ≤ k → u.heap[k]? = w'.heap[k]?) → SceneV u v q.1 q.2.1 q.2.2.1) ∧ Below w.heap.size w w'
theorem scene_zero (w : World) : SceneV w (.agg #[.int .i64 0, .slice none 0 0, .slice none 0 0]) 0 [] [] :=
 ⟨none, 0, none, 0, rfl, Nat.le_refl _, ⟨rfl, by simp, fun h => absurd h (by simp)⟩, Nat.le_refl _, ⟨rfl, by simp, fun h => absurd h (by simp)⟩⟩
theorem valid_a2 {a0 a1 a2 : Int} {l : List S40} (h : validM a0 a1 a2 l = true) : (3 ≤ a0 ∧ a0 ≤ 64) ∧ (2 ≤ a1 ∧ a1 ≤ 8) ∧ (1 ≤ a2 ∧ a2 ≤ 3) := by
 unfold validM at h
 rw [Bool.and_eq_true] at h
 exact headB_bd h.1
def reg17a.T : Bool × List (List Nat × List Nat) := (true, [([], []), ([0], [0]), ([1, 1], [1]), ([], []), ([3], [3]), ([4, 4], [4]), ([2, 5], [2, 5]), ([], []), ([7, 6, 0, 1, 2, 3, 4, 5, 6, 7], [6, 7])])
def reg17a.B : List Nat := [0, 1, 3, 0, 8, 24, 63, 0, 255]
theorem reg17a.tab : rtab .any (opsOf Tryd.f46 5) = reg17a.T := by kernel_rfl
theorem reg17a.bits : waitsOk reg17a.T.2 reg17a.B = true := by kernel_rfl
def reg17b.T : Bool × List (List Nat × List Nat) := (true, [([], []), ([0], [0]), ([], []), ([2], [2]), ([1, 0, 1, 2, 3], [1]), ([4, 3, 3, 0, 1, 2, 3], [3, 4])])
def reg17b.B : List Nat := [0, 1, 0, 4, 15, 31]
theorem reg17b.tab : rtab .any (opsOf Tryd.f46 6) = reg17b.T := by kernel_rfl
theorem reg17b.bits : waitsOk reg17b.T.2 reg17b.B = true := by kernel_rfl
set_option maxHeartbeats 1000000 in
set_option maxRecDepth 100000 in
theorem start_walkF (a0 a1 a2 : Int) (A : Option Addr) (c : Nat) (l : List S40) (A5 : Option Addr) (c5 : Nat) (inp : List Int) (w : World) (hr : Kd.C k40 w A l.length l) (h5 : Kd.C (Kd.int .i64) w A5 inp.length inp) (hlc : inp.length ≤ c5) :
  Calls Tryd.prog 46 #[.agg #[.int .i64 a0, .int .i64 a1, .int .i64 a2, .slice A l.length c], .slice A5 inp.length c5] w (StartOutF w (startF a0 a1 a2 l inp)) := by
 obtain ⟨W, hW⟩ : ∃ W, (w.alloc (Obj.cells #[.int .i64 a0, .int .i64 a1, .int .i64 a2, .slice A l.length c] 24)).alloc (Obj.cells #[.int .i64 0, .slice none 0 0, .slice none 0 0] 43) = W := ⟨_, rfl⟩
 have hBW : Below w.heap.size w W := by rw [← hW]; exact ((Below.refl _ _).alloc (Nat.le_refl _) _).alloc (by simp) _
 have HBW := Aside0.mk hBW
 have HV := Aside0.mk (valid_calls a0 a1 a2 A c l W (Kd.C_below hr hBW))
 have H5 := Aside0.mk h5
 have HLC := Aside0.mk hlc
 have z1 : w.heap.size + 1 < W.heap.size := by rw [← hW]; simp
 have z0 : w.heap.size < W.heap.size := by omega
 have m0 : W.cell? ⟨w.heap.size, 0, none⟩ = some (.int .i64 a0) := by subst hW; go_simp
 have m1 : W.cell? ⟨w.heap.size, 1, none⟩ = some (.int .i64 a1) := by subst hW; go_simp
 have m2 : W.cell? ⟨w.heap.size, 2, none⟩ = some (.int .i64 a2) := by subst hW; go_simp
 have hXR : W.heap[w.heap.size + 1]? = some (.cells #[.int .i64 0, .slice none 0 0, .slice none 0 0] 43 (0, 0)) := by rw [← hW]; exact alloc2_new _ _ _
 obtain ⟨x0, x1, x2⟩ := trio_cells hXR
 have y0 := run_frozen hXR 0
 have y1 := run_frozen hXR 1
 have y2 := run_frozen hXR 2
 have HXR := Aside0.mk hXR
 have HW := Aside0.mk hW
 clear hr h5 hlc hW hBW hXR
 cases hv : validM a0 a1 a2 l with
 | false =>
  have HO : Aside0 (startF a0 a1 a2 l inp = (0, [], [], 1)) := ⟨by unfold startF; rw [if_pos hv]⟩
  rw [hv] at HV
  clear hv
  go_enter Tryd.func46, Tryd.ntmps46
  go_wp2_with fail
  rw [HW.out]
  go_wp2_with (go_at_call 10; refine HV.out.mono ?_; rintro e w1 ⟨rfl, hb⟩; obtain ⟨hcc, hff⟩ := bcell hb; have HB := Aside0.mk hb; have zz := Nat.lt_of_lt_of_le z1 hb.size; clear hb)
  refine bodyPost_ret (v := .tuple #[.agg #[.int .i64 0, .slice none 0 0, .slice none 0 0], .int .i64 1]) (by simp [results, Tryd.results46, go_sem, hcc, hff, x0, x1, x2, y0, y1, y2, zz, z1]) rfl ?_
  rw [HO.out]
  refine ⟨_, rfl, fun _ _ => scene_zero _, ?_⟩
  have h1 : Below w.heap.size w w1 := HBW.out.trans (HB.out.mono (by omega))
  exact ((h1.setCell (p := ⟨w.heap.size + 1, 0, none⟩) (by simp) _).setCell (p := ⟨w.heap.size + 1, 1, none⟩) (by simp) _).setCell (p := ⟨w.heap.size + 1, 2, none⟩) (by simp) _
 | true =>
  obtain ⟨_, ⟨b2, b3⟩, b4, b5⟩ := valid_a2 hv
  rw [hv] at HV
  cases hs : startBad a1 inp with
  | true =>
   have HO : Aside0 (startF a0 a1 a2 l inp = (0, [], [], 2)) := ⟨by unfold startF; rw [if_neg (by rw [hv]; simp), if_pos hs]⟩
   clear hv
   by_cases hl : (20000 : Int) < (inp.length : Int)
   ·have t1 : decide ((20000 : Int) < (inp.length : Int)) = true := decide_eq_true hl
    clear hl hs
    go_enter Tryd.func46, Tryd.ntmps46
    go_wp2_with fail
    rw [HW.out]
    go_wp2_with (go_at_call 10; refine HV.out.mono ?_; rintro e w1 ⟨rfl, hb⟩; obtain ⟨hcc, hff⟩ := bcell hb; have HB := Aside0.mk hb; have zz := Nat.lt_of_lt_of_le z1 hb.size; clear hb)
    refine bodyPost_ret (v := .tuple #[.agg #[.int .i64 0, .slice none 0 0, .slice none 0 0], .int .i64 2]) (by simp [results, Tryd.results46, go_sem, hcc, hff, x0, x1, x2, y0, y1, y2, zz, z1]) rfl ?_
    rw [HO.out]
    refine ⟨_, rfl, fun _ _ => scene_zero _, ?_⟩
    have h1 : Below w.heap.size w w1 := HBW.out.trans (HB.out.mono (by omega))
    exact ((h1.setCell (p := ⟨w.heap.size + 1, 0, none⟩) (by simp) _).setCell (p := ⟨w.heap.size + 1, 1, none⟩) (by simp) _).setCell (p := ⟨w.heap.size + 1, 2, none⟩) (by simp) _
   ·have t1 : decide ((20000 : Int) < (inp.length : Int)) = false := decide_eq_false hl
    have hany : inp.any (outB a1) = true := by simpa [startBad, t1] using hs
    have HANY := Aside0.mk hany
    clear hl hs hany
    go_enter Tryd.func46, Tryd.ntmps46
    go_wp2_with fail
    rw [HW.out]
    go_wp2_with (first
     | (go_at_call 10; refine HV.out.mono ?_; rintro e w1 ⟨rfl, hb⟩; obtain ⟨hcc, hff⟩ := bcell hb; have HB := Aside0.mk hb; have zz := Nat.lt_of_lt_of_le z1 hb.size; clear hb)
     | (go_at_call 59; refine (contains_int (outB a1) 60 #[.pointer (some ⟨w.heap.size, 0, none⟩)] eg41 A5 c5 inp _ (Kd.C_below (Kd.C_below H5.out HBW.out) HB.out) (fun x => pred41 a1 w.heap.size _ ((hcc _ _ z0).trans m1) x)).mono ?_; rw [HANY.out]; rintro e w2 ⟨rfl, rfl⟩))
    refine bodyPost_ret (v := .tuple #[.agg #[.int .i64 0, .slice none 0 0, .slice none 0 0], .int .i64 2]) (by simp [results, Tryd.results46, go_sem, hcc, hff, x0, x1, x2, y0, y1, y2, zz, z1]) rfl ?_
    rw [HO.out]
    refine ⟨_, rfl, fun _ _ => scene_zero _, ?_⟩
    have h1 : Below w.heap.size w w1 := HBW.out.trans (HB.out.mono (by omega))
    exact ((h1.setCell (p := ⟨w.heap.size + 1, 0, none⟩) (by simp) _).setCell (p := ⟨w.heap.size + 1, 1, none⟩) (by simp) _).setCell (p := ⟨w.heap.size + 1, 2, none⟩) (by simp) _
  | false =>
   obtain ⟨n, rfl⟩ : ∃ n : Nat, a2 = n := ⟨a2.toNat, by omega⟩
   have HO : Aside0 (startF a0 a1 n l inp = (0, List.replicate n 0, trimL inp :: List.replicate (n - 1) [], 0)) := ⟨by unfold startF; rw [if_neg (by rw [hv]; simp), if_neg (by rw [hs]; simp)]; rfl⟩
   have hs2 : decide ((20000 : Int) < (inp.length : Int)) = false ∧ inp.any (outB a1) = false := by simpa [startBad] using hs
   obtain ⟨t1, t2⟩ := hs2
   have HANY := Aside0.mk t2
   have HLI : Aside0 (inp.length ≤ 1000000) := ⟨by have := of_decide_eq_false t1; omega⟩
   have HN1 : Aside0 (1 ≤ n) := ⟨by omega⟩
   have HN3 : Aside0 (n ≤ 3) := ⟨by omega⟩
   clear hs hv t2
   go_enter Tryd.func46, Tryd.ntmps46
   go_wp2_with fail
   rw [HW.out]
   go_wp2_with (first
    | (go_at_call 10; refine HV.out.mono ?_; rintro e w1 ⟨rfl, hb⟩; obtain ⟨hcc, hff⟩ := bcell hb; have HB := Aside0.mk hb; have zz := Nat.lt_of_lt_of_le z1 hb.size; clear hb)
    | (go_at_call 59; refine (contains_int (outB a1) 60 #[.pointer (some ⟨w.heap.size, 0, none⟩)] eg41 A5 c5 inp _ (Kd.C_below (Kd.C_below H5.out HBW.out) HB.out) (fun x => pred41 a1 w.heap.size _ ((hcc _ _ z0).trans m1) x)).mono ?_; rw [HANY.out]; rintro e w2 ⟨rfl, rfl⟩))
   have c2 : w1.cell? ⟨w.heap.size, 2, none⟩ = some (.int .i64 n) := (hcc _ _ z0).trans m2
   have HXW : Aside0 (w1.heap[w.heap.size + 1]? = some (.cells #[.int .i64 0, .slice none 0 0, .slice none 0 0] 43 (0, 0))) := ⟨(HB.out.block _ z1).trans HXR.out⟩
   have HB1 : Aside0 (Below w.heap.size w w1) := ⟨HBW.out.trans (HB.out.mono (by omega))⟩
   have HZW : Aside0 (w.heap.size + 1 < w1.heap.size) := ⟨zz⟩
   clear m0 m1 m2 x0 x1 x2 y0 y1 y2 hcc hff z0 z1 zz
   refine start_ (n := 9) (S := fun w' => w'.cell? ⟨w.heap.size, 2, none⟩ = some (.int .i64 n)) (ds := [8]) #[false, false, false, false, false, false, false, false, false] (by kernel_rfl) rfl rfl c2 (fun hHeld => ?_); refine with_tabW reg17a.tab reg17a.bits (fun HT_ HW_ => ?_)
   have HB0 := Aside0.mk (below_drew (Below.refl w1.heap.size w1))
   generalize w1.drew = W0 at HB0 hHeld ⊢
   refine pure_ (i := 0) (N := some 22) (v := ?_) (a' := ?_) #[true, false, false, false, false, false, false, false, false] rfl rfl (any_of HT_.out (by kernel_rfl)) (fun _ _ _ h => h) (Or.inl ⟨by rfl, ?_⟩) ?_ ?_
   rotate_left
   ·intro w'
    go_simp
    with_reducible rfl
   rotate_left
   ·simp only [Act.put, List.setIfInBounds_toArray, List.set_cons_zero, List.set_cons_succ, i64_w, i32_w]
    rfl
   refine take_ (i := 1) (N := some 23) (v := ?_) (a' := ?_) #[true, true, false, false, false, false, false, false, false] rfl rfl (take_ofW HT_.out HW_.out (by kernel_rfl)) (fun _ _ _ h => h) (Or.inl ⟨by rfl, ?_⟩) hHeld ?_ ?_
   rotate_left
   ·rintro w' s0
    go_simp
    with_reducible rfl
   rotate_left
   ·simp only [Act.put, List.setIfInBounds_toArray, List.set_cons_zero, List.set_cons_succ, i64_w, i32_w]
    rfl
   refine pure_ (i := 3) (N := some 25) (v := ?_) (a' := ?_) #[true, true, false, true, false, false, false, false, false] rfl rfl (any_of HT_.out (by kernel_rfl)) (fun _ _ _ h => h) (Or.inl ⟨by rfl, ?_⟩) ?_ ?_
   rotate_left
   ·intro w'
    go_simp
    with_reducible rfl
   rotate_left
   ·simp only [Act.put, List.setIfInBounds_toArray, List.set_cons_zero, List.set_cons_succ, i64_w, i32_w]
    rfl
   refine take_ (i := 4) (N := some 26) (v := ?_) (a' := ?_) #[true, true, false, true, true, false, false, false, false] rfl rfl (take_ofW HT_.out HW_.out (by kernel_rfl)) (fun _ _ _ h => h) (Or.inl ⟨by rfl, ?_⟩) hHeld ?_ ?_
   rotate_left
   ·rintro w' s0
    go_simp
    with_reducible rfl
   rotate_left
   ·simp only [Act.put, List.setIfInBounds_toArray, List.set_cons_zero, List.set_cons_succ, i64_w, i32_w]
    rfl
   refine join_ (σ := Nat × Nat × Nat) 1 #[true, true, true, true, true, true, true, true, false] (fun s_ => [(24, .slice (some ⟨s_.1, 0, none⟩) n n), (27, .slice (some ⟨s_.2.1, 0, none⟩) n n), (28, .agg #[.int .i64 0, .slice (some ⟨s_.1, 0, none⟩) n n, .slice (some ⟨s_.2.1, 0, none⟩) n n]), (6, .pointer (some ⟨s_.2.2, 0, none⟩))]) (fun s_ w' => w'.ownsRow w.heap.size 3 1 (.slice (some ⟨s_.1, 0, none⟩) n n) n (List.replicate n (.int .i64 0)) ∧ w'.ownsRow w.heap.size 38 1 (.slice (some ⟨s_.2.1, 0, none⟩) n n) n (List.replicate n (.slice none 0 0)) ∧ w'.heap[s_.2.2]? = some (.cells #[.int .i64 0, .slice none 0 0, .slice none 0 0] 43 (0, 0)) ∧ w1.heap.size ≤ s_.2.2 ∧ Below w1.heap.size w1 w') ?_ ?_
   rotate_left
   ·intro hCont
    refine three_ (i := 2) (j := 5) (k := 7) (Ni := some 24) (Nj := some 27) (Nk := some 6) #[true, true, true, true, true, false, false, false, false] #[true, true, false, true, true, true, false, false, false] #[true, true, false, true, true, false, false, true, false] rfl rfl rfl rfl rfl rfl (three_of HT_.out (by kernel_rfl)) (by decide) (by decide) (by decide) (fun K hK => ?_) (fun K hK => ?_) (fun K hK => ?_)
    ·skip
     obtain ⟨X1, hrun, ho, hgr⟩ := make_row W0 w.heap.size 38 3 (.int .i64 0) 8 Tryd.underlying38 info3 rfl (by decide) n HN3.out (by have := HB0.out.size; have := HZW.out; omega)
     refine event_step (v := .slice (some ⟨W0.heap.size, 0, none⟩) n n) (w1 := X1) (by rfl) (exec_make (.tmp 23) (.tmp 23) 38 rfl (by rfl) (by rfl) hrun) ?_
     have hb : Below W0.heap.size W0 X1 := ⟨hgr.os, hgr.tape, hgr.output, hgr.size, fun k hk => hgr.block k hk (by simp)⟩
     have HO1_1 := Aside0.mk ho
     have HBX1 := Aside0.mk (HB0.out.trans (hb.mono HB0.out.size))
     clear hrun ho hgr hb
     generalize W0.heap.size = g1 at HO1_1 ⊢
     refine hK.out _ _ (pw_cell_below HBX1.out c2) (fun hHeld => ?_)
     clear hK K
     refine norm_ (a' := ?_) ?_ ?_
     rotate_left
     ·show Act.put _ (some 24) _ = _
      simp only [Act.put, List.setIfInBounds_toArray, List.set_cons_zero, List.set_cons_succ, i64_w, i32_w]
      rfl
     refine two_ (i := 5) (j := 7) (Ni := some 27) (Nj := some 6) #[true, true, true, true, true, true, false, false, false] #[true, true, true, true, true, false, false, true, false] rfl rfl rfl rfl (two_of HT_.out (by kernel_rfl)) (by decide) (by decide) (fun K hK => ?_) (fun K hK => ?_)
     ·skip
      obtain ⟨X2, hrun, ho, hgr⟩ := make_row X1 w.heap.size 41 38 (.slice none 0 0) 24 Tryd.underlying41 info38 rfl (by decide) n HN3.out (by have := HBX1.out.size; have := HZW.out; omega)
      refine event_step (v := .slice (some ⟨X1.heap.size, 0, none⟩) n n) (w1 := X2) (by rfl) (exec_make (.tmp 26) (.tmp 26) 41 rfl (by rfl) (by rfl) hrun) ?_
      have hb : Below X1.heap.size X1 X2 := ⟨hgr.os, hgr.tape, hgr.output, hgr.size, fun k hk => hgr.block k hk (by simp)⟩
      have HO2_2 := Aside0.mk ho
      have HO1_2 := Aside0.mk (pw_own_below HO1_1.out hb)
      have HBX2 := Aside0.mk (HBX1.out.trans (hb.mono HBX1.out.size))
      clear hrun ho hgr hb
      generalize X1.heap.size = g2 at HO2_2 ⊢
      refine hK.out _ _ (pw_cell_below HBX2.out c2) (fun hHeld => ?_)
      clear hK K
      refine norm_ (a' := ?_) ?_ ?_
      rotate_left
      ·show Act.put _ (some 27) _ = _
       simp only [Act.put, List.setIfInBounds_toArray, List.set_cons_zero, List.set_cons_succ, i64_w, i32_w]
       rfl
      refine pure_ (i := 6) (N := some 28) (v := ?_) (a' := ?_) #[true, true, true, true, true, true, true, false, false] rfl rfl (any_of HT_.out (by kernel_rfl)) (fun _ _ _ h => h) (Or.inl ⟨by rfl, ?_⟩) ?_ ?_
      rotate_left
      ·intro w'
       go_simp
       with_reducible rfl
      rotate_left
      ·simp only [Act.put, List.setIfInBounds_toArray, List.set_cons_zero, List.set_cons_succ, i64_w, i32_w]
       rfl
      refine one_ (i := 7) (N := some 6) #[true, true, true, true, true, true, true, true, false] rfl rfl (one_of HT_.out (by kernel_rfl)) (by decide) (fun K hK => ?_)
      refine box_step ?hg (N := 6) ?hd (cs := #[.int .i64 0, .slice none 0 0, .slice none 0 0]) (t := 43) ?hr ?_; (case hd => rfl); (case hg => rfl); (case hr => first | (go_simp; done) | (go_simp; rfl))
      intro gb hg X3 hbox hb
      have HX_3 := Aside0.mk hbox
      have HO1_3 := Aside0.mk (pw_own_below HO1_2.out hb)
      have HO2_3 := Aside0.mk (pw_own_below HO2_2.out hb)
      have HGB : Aside0 (w1.heap.size ≤ gb) := ⟨by rw [hg]; exact HBX2.out.size⟩
      have HBX3 := Aside0.mk (HBX2.out.trans (hb.mono HBX2.out.size))
      clear hg hbox hb
      refine hK.out _ _ (pw_cell_below HBX3.out c2) (fun hHeld => ?_)
      clear hK K
      refine norm_ (a' := ?_) ?_ ?_
      rotate_left
      ·show Act.put _ (some 6) _ = _
       simp only [Act.put, List.setIfInBounds_toArray, List.set_cons_zero, List.set_cons_succ, i64_w, i32_w]
       rfl
      exact norm_ (by simp only [putAll, Act.put, List.setIfInBounds_toArray, List.set_cons_zero, List.set_cons_succ]) (hCont (g1, g2, gb) _ ⟨HO1_3.out, HO2_3.out, HX_3.out, HGB.out, HBX3.out⟩)
     ·skip
      refine box_step ?hg (N := 6) ?hd (cs := #[.int .i64 0, .slice none 0 0, .slice none 0 0]) (t := 43) ?hr ?_; (case hd => rfl); (case hg => rfl); (case hr => first | (go_simp; done) | (go_simp; rfl))
      intro gb hg X2 hbox hb
      have HX_2 := Aside0.mk hbox
      have HO1_2 := Aside0.mk (pw_own_below HO1_1.out hb)
      have HGB : Aside0 (w1.heap.size ≤ gb) := ⟨by rw [hg]; exact HBX1.out.size⟩
      have HBX2 := Aside0.mk (HBX1.out.trans (hb.mono HBX1.out.size))
      clear hg hbox hb
      refine hK.out _ _ (pw_cell_below HBX2.out c2) (fun hHeld => ?_)
      clear hK K
      refine norm_ (a' := ?_) ?_ ?_
      rotate_left
      ·show Act.put _ (some 6) _ = _
       simp only [Act.put, List.setIfInBounds_toArray, List.set_cons_zero, List.set_cons_succ, i64_w, i32_w]
       rfl
      refine one_ (i := 5) (N := some 27) #[true, true, true, true, true, true, false, true, false] rfl rfl (one_of HT_.out (by kernel_rfl)) (by decide) (fun K hK => ?_)
      obtain ⟨X3, hrun, ho, hgr⟩ := make_row X2 w.heap.size 41 38 (.slice none 0 0) 24 Tryd.underlying41 info38 rfl (by decide) n HN3.out (by have := HBX2.out.size; have := HZW.out; omega)
      refine event_step (v := .slice (some ⟨X2.heap.size, 0, none⟩) n n) (w1 := X3) (by rfl) (exec_make (.tmp 26) (.tmp 26) 41 rfl (by rfl) (by rfl) hrun) ?_
      have hb : Below X2.heap.size X2 X3 := ⟨hgr.os, hgr.tape, hgr.output, hgr.size, fun k hk => hgr.block k hk (by simp)⟩
      have HO2_3 := Aside0.mk ho
      have HO1_3 := Aside0.mk (pw_own_below HO1_2.out hb)
      have HX_3 := Aside0.mk ((hb.block _ (Array.getElem?_eq_some_iff.1 HX_2.out).1).trans HX_2.out)
      have HBX3 := Aside0.mk (HBX2.out.trans (hb.mono HBX2.out.size))
      clear hrun ho hgr hb
      generalize X2.heap.size = g2 at HO2_3 ⊢
      refine hK.out _ _ (pw_cell_below HBX3.out c2) (fun hHeld => ?_)
      clear hK K
      refine norm_ (a' := ?_) ?_ ?_
      rotate_left
      ·show Act.put _ (some 27) _ = _
       simp only [Act.put, List.setIfInBounds_toArray, List.set_cons_zero, List.set_cons_succ, i64_w, i32_w]
       rfl
      refine pure_ (i := 6) (N := some 28) (v := ?_) (a' := ?_) #[true, true, true, true, true, true, true, true, false] rfl rfl (any_of HT_.out (by kernel_rfl)) (fun _ _ _ h => h) (Or.inl ⟨by rfl, ?_⟩) ?_ ?_
      rotate_left
      ·intro w'
       go_simp
       with_reducible rfl
      rotate_left
      ·simp only [Act.put, List.setIfInBounds_toArray, List.set_cons_zero, List.set_cons_succ, i64_w, i32_w]
       rfl
      exact norm_ (by simp only [putAll, Act.put, List.setIfInBounds_toArray, List.set_cons_zero, List.set_cons_succ]) (hCont (g1, g2, gb) _ ⟨HO1_3.out, HO2_3.out, HX_3.out, HGB.out, HBX3.out⟩)
    ·skip
     obtain ⟨X1, hrun, ho, hgr⟩ := make_row W0 w.heap.size 41 38 (.slice none 0 0) 24 Tryd.underlying41 info38 rfl (by decide) n HN3.out (by have := HB0.out.size; have := HZW.out; omega)
     refine event_step (v := .slice (some ⟨W0.heap.size, 0, none⟩) n n) (w1 := X1) (by rfl) (exec_make (.tmp 26) (.tmp 26) 41 rfl (by rfl) (by rfl) hrun) ?_
     have hb : Below W0.heap.size W0 X1 := ⟨hgr.os, hgr.tape, hgr.output, hgr.size, fun k hk => hgr.block k hk (by simp)⟩
     have HO2_1 := Aside0.mk ho
     have HBX1 := Aside0.mk (HB0.out.trans (hb.mono HB0.out.size))
     clear hrun ho hgr hb
     generalize W0.heap.size = g2 at HO2_1 ⊢
     refine hK.out _ _ (pw_cell_below HBX1.out c2) (fun hHeld => ?_)
     clear hK K
     refine norm_ (a' := ?_) ?_ ?_
     rotate_left
     ·show Act.put _ (some 27) _ = _
      simp only [Act.put, List.setIfInBounds_toArray, List.set_cons_zero, List.set_cons_succ, i64_w, i32_w]
      rfl
     refine two_ (i := 2) (j := 7) (Ni := some 24) (Nj := some 6) #[true, true, true, true, true, true, false, false, false] #[true, true, false, true, true, true, false, true, false] rfl rfl rfl rfl (two_of HT_.out (by kernel_rfl)) (by decide) (by decide) (fun K hK => ?_) (fun K hK => ?_)
     ·skip
      obtain ⟨X2, hrun, ho, hgr⟩ := make_row X1 w.heap.size 38 3 (.int .i64 0) 8 Tryd.underlying38 info3 rfl (by decide) n HN3.out (by have := HBX1.out.size; have := HZW.out; omega)
      refine event_step (v := .slice (some ⟨X1.heap.size, 0, none⟩) n n) (w1 := X2) (by rfl) (exec_make (.tmp 23) (.tmp 23) 38 rfl (by rfl) (by rfl) hrun) ?_
      have hb : Below X1.heap.size X1 X2 := ⟨hgr.os, hgr.tape, hgr.output, hgr.size, fun k hk => hgr.block k hk (by simp)⟩
      have HO1_2 := Aside0.mk ho
      have HO2_2 := Aside0.mk (pw_own_below HO2_1.out hb)
      have HBX2 := Aside0.mk (HBX1.out.trans (hb.mono HBX1.out.size))
      clear hrun ho hgr hb
      generalize X1.heap.size = g1 at HO1_2 ⊢
      refine hK.out _ _ (pw_cell_below HBX2.out c2) (fun hHeld => ?_)
      clear hK K
      refine norm_ (a' := ?_) ?_ ?_
      rotate_left
      ·show Act.put _ (some 24) _ = _
       simp only [Act.put, List.setIfInBounds_toArray, List.set_cons_zero, List.set_cons_succ, i64_w, i32_w]
       rfl
      refine pure_ (i := 6) (N := some 28) (v := ?_) (a' := ?_) #[true, true, true, true, true, true, true, false, false] rfl rfl (any_of HT_.out (by kernel_rfl)) (fun _ _ _ h => h) (Or.inl ⟨by rfl, ?_⟩) ?_ ?_
      rotate_left
      ·intro w'
       go_simp
       with_reducible rfl
      rotate_left
      ·simp only [Act.put, List.setIfInBounds_toArray, List.set_cons_zero, List.set_cons_succ, i64_w, i32_w]
       rfl
      refine one_ (i := 7) (N := some 6) #[true, true, true, true, true, true, true, true, false] rfl rfl (one_of HT_.out (by kernel_rfl)) (by decide) (fun K hK => ?_)
      refine box_step ?hg (N := 6) ?hd (cs := #[.int .i64 0, .slice none 0 0, .slice none 0 0]) (t := 43) ?hr ?_; (case hd => rfl); (case hg => rfl); (case hr => first | (go_simp; done) | (go_simp; rfl))
      intro gb hg X3 hbox hb
      have HX_3 := Aside0.mk hbox
      have HO2_3 := Aside0.mk (pw_own_below HO2_2.out hb)
      have HO1_3 := Aside0.mk (pw_own_below HO1_2.out hb)
      have HGB : Aside0 (w1.heap.size ≤ gb) := ⟨by rw [hg]; exact HBX2.out.size⟩
      have HBX3 := Aside0.mk (HBX2.out.trans (hb.mono HBX2.out.size))
      clear hg hbox hb
      refine hK.out _ _ (pw_cell_below HBX3.out c2) (fun hHeld => ?_)
      clear hK K
      refine norm_ (a' := ?_) ?_ ?_
      rotate_left
      ·show Act.put _ (some 6) _ = _
       simp only [Act.put, List.setIfInBounds_toArray, List.set_cons_zero, List.set_cons_succ, i64_w, i32_w]
       rfl
      exact norm_ (by simp only [putAll, Act.put, List.setIfInBounds_toArray, List.set_cons_zero, List.set_cons_succ]) (hCont (g1, g2, gb) _ ⟨HO1_3.out, HO2_3.out, HX_3.out, HGB.out, HBX3.out⟩)
     ·skip
      refine box_step ?hg (N := 6) ?hd (cs := #[.int .i64 0, .slice none 0 0, .slice none 0 0]) (t := 43) ?hr ?_; (case hd => rfl); (case hg => rfl); (case hr => first | (go_simp; done) | (go_simp; rfl))
      intro gb hg X2 hbox hb
      have HX_2 := Aside0.mk hbox
      have HO2_2 := Aside0.mk (pw_own_below HO2_1.out hb)
      have HGB : Aside0 (w1.heap.size ≤ gb) := ⟨by rw [hg]; exact HBX1.out.size⟩
      have HBX2 := Aside0.mk (HBX1.out.trans (hb.mono HBX1.out.size))
      clear hg hbox hb
      refine hK.out _ _ (pw_cell_below HBX2.out c2) (fun hHeld => ?_)
      clear hK K
      refine norm_ (a' := ?_) ?_ ?_
      rotate_left
      ·show Act.put _ (some 6) _ = _
       simp only [Act.put, List.setIfInBounds_toArray, List.set_cons_zero, List.set_cons_succ, i64_w, i32_w]
       rfl
      refine one_ (i := 2) (N := some 24) #[true, true, true, true, true, true, false, true, false] rfl rfl (one_of HT_.out (by kernel_rfl)) (by decide) (fun K hK => ?_)
      obtain ⟨X3, hrun, ho, hgr⟩ := make_row X2 w.heap.size 38 3 (.int .i64 0) 8 Tryd.underlying38 info3 rfl (by decide) n HN3.out (by have := HBX2.out.size; have := HZW.out; omega)
      refine event_step (v := .slice (some ⟨X2.heap.size, 0, none⟩) n n) (w1 := X3) (by rfl) (exec_make (.tmp 23) (.tmp 23) 38 rfl (by rfl) (by rfl) hrun) ?_
      have hb : Below X2.heap.size X2 X3 := ⟨hgr.os, hgr.tape, hgr.output, hgr.size, fun k hk => hgr.block k hk (by simp)⟩
      have HO1_3 := Aside0.mk ho
      have HO2_3 := Aside0.mk (pw_own_below HO2_2.out hb)
      have HX_3 := Aside0.mk ((hb.block _ (Array.getElem?_eq_some_iff.1 HX_2.out).1).trans HX_2.out)
      have HBX3 := Aside0.mk (HBX2.out.trans (hb.mono HBX2.out.size))
      clear hrun ho hgr hb
      generalize X2.heap.size = g1 at HO1_3 ⊢
      refine hK.out _ _ (pw_cell_below HBX3.out c2) (fun hHeld => ?_)
      clear hK K
      refine norm_ (a' := ?_) ?_ ?_
      rotate_left
      ·show Act.put _ (some 24) _ = _
       simp only [Act.put, List.setIfInBounds_toArray, List.set_cons_zero, List.set_cons_succ, i64_w, i32_w]
       rfl
      refine pure_ (i := 6) (N := some 28) (v := ?_) (a' := ?_) #[true, true, true, true, true, true, true, true, false] rfl rfl (any_of HT_.out (by kernel_rfl)) (fun _ _ _ h => h) (Or.inl ⟨by rfl, ?_⟩) ?_ ?_
      rotate_left
      ·intro w'
       go_simp
       with_reducible rfl
      rotate_left
      ·simp only [Act.put, List.setIfInBounds_toArray, List.set_cons_zero, List.set_cons_succ, i64_w, i32_w]
       rfl
      exact norm_ (by simp only [putAll, Act.put, List.setIfInBounds_toArray, List.set_cons_zero, List.set_cons_succ]) (hCont (g1, g2, gb) _ ⟨HO1_3.out, HO2_3.out, HX_3.out, HGB.out, HBX3.out⟩)
    ·skip
     refine box_step ?hg (N := 6) ?hd (cs := #[.int .i64 0, .slice none 0 0, .slice none 0 0]) (t := 43) ?hr ?_; (case hd => rfl); (case hg => rfl); (case hr => first | (go_simp; done) | (go_simp; rfl))
     intro gb hg X1 hbox hb
     have HX_1 := Aside0.mk hbox
     have HGB : Aside0 (w1.heap.size ≤ gb) := ⟨by rw [hg]; exact HB0.out.size⟩
     have HBX1 := Aside0.mk (HB0.out.trans (hb.mono HB0.out.size))
     clear hg hbox hb
     refine hK.out _ _ (pw_cell_below HBX1.out c2) (fun hHeld => ?_)
     clear hK K
     refine norm_ (a' := ?_) ?_ ?_
     rotate_left
     ·show Act.put _ (some 6) _ = _
      simp only [Act.put, List.setIfInBounds_toArray, List.set_cons_zero, List.set_cons_succ, i64_w, i32_w]
      rfl
     refine two_ (i := 2) (j := 5) (Ni := some 24) (Nj := some 27) #[true, true, true, true, true, false, false, true, false] #[true, true, false, true, true, true, false, true, false] rfl rfl rfl rfl (two_of HT_.out (by kernel_rfl)) (by decide) (by decide) (fun K hK => ?_) (fun K hK => ?_)
     ·skip
      obtain ⟨X2, hrun, ho, hgr⟩ := make_row X1 w.heap.size 38 3 (.int .i64 0) 8 Tryd.underlying38 info3 rfl (by decide) n HN3.out (by have := HBX1.out.size; have := HZW.out; omega)
      refine event_step (v := .slice (some ⟨X1.heap.size, 0, none⟩) n n) (w1 := X2) (by rfl) (exec_make (.tmp 23) (.tmp 23) 38 rfl (by rfl) (by rfl) hrun) ?_
      have hb : Below X1.heap.size X1 X2 := ⟨hgr.os, hgr.tape, hgr.output, hgr.size, fun k hk => hgr.block k hk (by simp)⟩
      have HO1_2 := Aside0.mk ho
      have HX_2 := Aside0.mk ((hb.block _ (Array.getElem?_eq_some_iff.1 HX_1.out).1).trans HX_1.out)
      have HBX2 := Aside0.mk (HBX1.out.trans (hb.mono HBX1.out.size))
      clear hrun ho hgr hb
      generalize X1.heap.size = g1 at HO1_2 ⊢
      refine hK.out _ _ (pw_cell_below HBX2.out c2) (fun hHeld => ?_)
      clear hK K
      refine norm_ (a' := ?_) ?_ ?_
      rotate_left
      ·show Act.put _ (some 24) _ = _
       simp only [Act.put, List.setIfInBounds_toArray, List.set_cons_zero, List.set_cons_succ, i64_w, i32_w]
       rfl
      refine one_ (i := 5) (N := some 27) #[true, true, true, true, true, true, false, true, false] rfl rfl (one_of HT_.out (by kernel_rfl)) (by decide) (fun K hK => ?_)
      obtain ⟨X3, hrun, ho, hgr⟩ := make_row X2 w.heap.size 41 38 (.slice none 0 0) 24 Tryd.underlying41 info38 rfl (by decide) n HN3.out (by have := HBX2.out.size; have := HZW.out; omega)
      refine event_step (v := .slice (some ⟨X2.heap.size, 0, none⟩) n n) (w1 := X3) (by rfl) (exec_make (.tmp 26) (.tmp 26) 41 rfl (by rfl) (by rfl) hrun) ?_
      have hb : Below X2.heap.size X2 X3 := ⟨hgr.os, hgr.tape, hgr.output, hgr.size, fun k hk => hgr.block k hk (by simp)⟩
      have HO2_3 := Aside0.mk ho
      have HX_3 := Aside0.mk ((hb.block _ (Array.getElem?_eq_some_iff.1 HX_2.out).1).trans HX_2.out)
      have HO1_3 := Aside0.mk (pw_own_below HO1_2.out hb)
      have HBX3 := Aside0.mk (HBX2.out.trans (hb.mono HBX2.out.size))
      clear hrun ho hgr hb
      generalize X2.heap.size = g2 at HO2_3 ⊢
      refine hK.out _ _ (pw_cell_below HBX3.out c2) (fun hHeld => ?_)
      clear hK K
      refine norm_ (a' := ?_) ?_ ?_
      rotate_left
      ·show Act.put _ (some 27) _ = _
       simp only [Act.put, List.setIfInBounds_toArray, List.set_cons_zero, List.set_cons_succ, i64_w, i32_w]
       rfl
      refine pure_ (i := 6) (N := some 28) (v := ?_) (a' := ?_) #[true, true, true, true, true, true, true, true, false] rfl rfl (any_of HT_.out (by kernel_rfl)) (fun _ _ _ h => h) (Or.inl ⟨by rfl, ?_⟩) ?_ ?_
      rotate_left
      ·intro w'
       go_simp
       with_reducible rfl
      rotate_left
      ·simp only [Act.put, List.setIfInBounds_toArray, List.set_cons_zero, List.set_cons_succ, i64_w, i32_w]
       rfl
      exact norm_ (by simp only [putAll, Act.put, List.setIfInBounds_toArray, List.set_cons_zero, List.set_cons_succ]) (hCont (g1, g2, gb) _ ⟨HO1_3.out, HO2_3.out, HX_3.out, HGB.out, HBX3.out⟩)
     ·skip
      obtain ⟨X2, hrun, ho, hgr⟩ := make_row X1 w.heap.size 41 38 (.slice none 0 0) 24 Tryd.underlying41 info38 rfl (by decide) n HN3.out (by have := HBX1.out.size; have := HZW.out; omega)
      refine event_step (v := .slice (some ⟨X1.heap.size, 0, none⟩) n n) (w1 := X2) (by rfl) (exec_make (.tmp 26) (.tmp 26) 41 rfl (by rfl) (by rfl) hrun) ?_
      have hb : Below X1.heap.size X1 X2 := ⟨hgr.os, hgr.tape, hgr.output, hgr.size, fun k hk => hgr.block k hk (by simp)⟩
      have HO2_2 := Aside0.mk ho
      have HX_2 := Aside0.mk ((hb.block _ (Array.getElem?_eq_some_iff.1 HX_1.out).1).trans HX_1.out)
      have HBX2 := Aside0.mk (HBX1.out.trans (hb.mono HBX1.out.size))
      clear hrun ho hgr hb
      generalize X1.heap.size = g2 at HO2_2 ⊢
      refine hK.out _ _ (pw_cell_below HBX2.out c2) (fun hHeld => ?_)
      clear hK K
      refine norm_ (a' := ?_) ?_ ?_
      rotate_left
      ·show Act.put _ (some 27) _ = _
       simp only [Act.put, List.setIfInBounds_toArray, List.set_cons_zero, List.set_cons_succ, i64_w, i32_w]
       rfl
      refine one_ (i := 2) (N := some 24) #[true, true, true, true, true, true, false, true, false] rfl rfl (one_of HT_.out (by kernel_rfl)) (by decide) (fun K hK => ?_)
      obtain ⟨X3, hrun, ho, hgr⟩ := make_row X2 w.heap.size 38 3 (.int .i64 0) 8 Tryd.underlying38 info3 rfl (by decide) n HN3.out (by have := HBX2.out.size; have := HZW.out; omega)
      refine event_step (v := .slice (some ⟨X2.heap.size, 0, none⟩) n n) (w1 := X3) (by rfl) (exec_make (.tmp 23) (.tmp 23) 38 rfl (by rfl) (by rfl) hrun) ?_
      have hb : Below X2.heap.size X2 X3 := ⟨hgr.os, hgr.tape, hgr.output, hgr.size, fun k hk => hgr.block k hk (by simp)⟩
      have HO1_3 := Aside0.mk ho
      have HX_3 := Aside0.mk ((hb.block _ (Array.getElem?_eq_some_iff.1 HX_2.out).1).trans HX_2.out)
      have HO2_3 := Aside0.mk (pw_own_below HO2_2.out hb)
      have HBX3 := Aside0.mk (HBX2.out.trans (hb.mono HBX2.out.size))
      clear hrun ho hgr hb
      generalize X2.heap.size = g1 at HO1_3 ⊢
      refine hK.out _ _ (pw_cell_below HBX3.out c2) (fun hHeld => ?_)
      clear hK K
      refine norm_ (a' := ?_) ?_ ?_
      rotate_left
      ·show Act.put _ (some 24) _ = _
       simp only [Act.put, List.setIfInBounds_toArray, List.set_cons_zero, List.set_cons_succ, i64_w, i32_w]
       rfl
      refine pure_ (i := 6) (N := some 28) (v := ?_) (a' := ?_) #[true, true, true, true, true, true, true, true, false] rfl rfl (any_of HT_.out (by kernel_rfl)) (fun _ _ _ h => h) (Or.inl ⟨by rfl, ?_⟩) ?_ ?_
      rotate_left
      ·intro w'
       go_simp
       with_reducible rfl
      rotate_left
      ·simp only [Act.put, List.setIfInBounds_toArray, List.set_cons_zero, List.set_cons_succ, i64_w, i32_w]
       rfl
      exact norm_ (by simp only [putAll, Act.put, List.setIfInBounds_toArray, List.set_cons_zero, List.set_cons_succ]) (hCont (g1, g2, gb) _ ⟨HO1_3.out, HO2_3.out, HX_3.out, HGB.out, HBX3.out⟩)
   rintro ⟨g1, g2, bo⟩ w4 ⟨hO1, hO2, hX9, hGB, hB4⟩
   refine norm_ (a' := ?_) ?_ ?_
   rotate_left
   ·simp only [putAll, Act.put, List.setIfInBounds_toArray, List.set_cons_zero, List.set_cons_succ]
    rfl
   have HO1 : Aside0 (w4.ownsRow w.heap.size 3 1 (.slice (some ⟨g1, 0, none⟩) n n) n (List.replicate n (.int .i64 0))) := ⟨hO1⟩
   have HO2 : Aside0 (w4.ownsRow w.heap.size 38 1 (.slice (some ⟨g2, 0, none⟩) n n) n (List.replicate n (.slice none 0 0))) := ⟨hO2⟩
   have HX9 : Aside0 (w4.heap[bo]? = some (.cells #[.int .i64 0, .slice none 0 0, .slice none 0 0] 43 (0, 0))) := ⟨hX9⟩
   have HGB : Aside0 (w1.heap.size ≤ bo) := ⟨hGB⟩
   have HB4 := Aside0.mk hB4
   clear hO1 hO2 hX9 hGB hB4
   refine last_ (i := 8) (N := none) #[true, true, true, true, true, true, true, true, true] rfl rfl (one_of HT_.out (by kernel_rfl)) (by decide) (fun K hK => ?_)
   have hx9 := HX9.out
   obtain ⟨q0, q1, q2⟩ := trio_cells hx9
   have f0 := run_frozen hx9 0
   have f1 := run_frozen hx9 1
   have f2 := run_frozen hx9 2
   clear hx9
   refine skip_ (w1 := ?_) (by rfl) rfl ?_ ?_
   rotate_left
   ·go_simp
    rfl
   refine hK.out _ _ ?_
   clear hK K
   refine done_ (done_of HT_.out (by kernel_rfl)) ?_
   have HBO : Aside0 (w.heap.size ≤ bo) := ⟨by have := HGB.out; have := HZW.out; omega⟩
   obtain ⟨w5, hw5⟩ : ∃ w5, ((w4.setCell ⟨bo, 0, none⟩ (.int .i64 0)).setCell ⟨bo, 1, none⟩ (.slice (some ⟨g1, 0, none⟩) n n)).setCell ⟨bo, 2, none⟩ (.slice (some ⟨g2, 0, none⟩) n n) = w5 := ⟨_, rfl⟩
   have hg3 : w4.grownBy w5 (some bo) := by rw [← hw5]; exact grown_trans (grown_trans (set_grown w4 bo 0 _) (set_grown _ bo 1 _)) (set_grown _ bo 2 _)
   have HC5 : Aside0 (w5.heap[bo]? = some (.cells #[.int .i64 0, .slice (some ⟨g1, 0, none⟩) n n, .slice (some ⟨g2, 0, none⟩) n n] 43 (0, 0))) := ⟨by
    rw [← hw5]
    exact (heap_setCell_same _ bo 2 _ 43 _ (heap_setCell_same _ bo 1 _ 43 _ (heap_setCell_same w4 bo 0 _ 43 _ HX9.out))).trans rfl⟩
   have ne32 : ∀ {m e : Nat} {x : Value} {xs : List Value}, w4.ownsRow w.heap.size e 1 x m xs → e ≠ 43 → ∀ k, x.ownBlock = some k → some bo ≠ some k := fun hx he k hk e => by
    obtain ⟨c', hc'⟩ := own_typed hx k hk
    injection e with e
    exact ne_of_typed HX9.out hc' (Ne.symm he) e
   have HR1 := Aside0.mk (kept_of HO1.out hg3 (fun k hk => ne32 HO1.out (by decide) k hk))
   have HR5 := Aside0.mk (kept_of HO2.out hg3 (fun k hk => ne32 HO2.out (by decide) k hk))
   have HB5 : Aside0 (Below w.heap.size w w5) := ⟨(HB1.out.trans (HB4.out.mono HB1.out.size)).grown hg3 (HB1.out.trans (HB4.out.mono HB1.out.size)).size (fun k hk => by injection hk with hk; rw [← hk]; exact HBO.out)⟩
   have HX5 : Aside0 (w5.heap[w.heap.size + 1]? = some (.cells #[.int .i64 0, .slice none 0 0, .slice none 0 0] 43 (0, 0))) := ⟨(hg3.block _ (by have := HZW.out; have := HB4.out.size; omega) (by intro h; injection h with h; have := HGB.out; have := HZW.out; omega)).trans ((HB4.out.block _ HZW.out).trans HXW.out)⟩
   have HZ5 : Aside0 (w.heap.size ≤ w5.heap.size) := ⟨HB5.out.size⟩
   have x2 : w5.cell? ⟨bo, 2, none⟩ = some (.slice (some ⟨g2, 0, none⟩) n n) := (trio_cells HC5.out).2.2
   have HI5 : Aside0 (Kd.C (Kd.int .i64) w5 A5 inp.length inp) := ⟨Kd.C_below H5.out HB5.out⟩
   have HNB : Aside0 (bo ≠ w.heap.size + 1) := ⟨by have := HGB.out; have := HZW.out; omega⟩
   have hn1 : decide (0 < n) = true := decide_eq_true (by have := HN1.out; omega)
   have hn2 : 0 < n := by have := HN1.out; omega
   first | rw [hw5] | skip
   clear hw5 hg3 ne32 q0 q1 q2 f0 f1 f2 c2
   try go_wp2
   first | rw [hw5] | skip
   refine start_ (n := 6) (S := fun w' => w'.cell? ⟨bo, 2, none⟩ = some (.slice (some ⟨g2, 0, none⟩) n n)) (ds := [5]) #[false, false, false, false, false, false] (by kernel_rfl) rfl rfl x2 (fun hHeld => ?_); refine with_tabW reg17b.tab reg17b.bits (fun HT_ HW_ => ?_)
   have HB0 := Aside0.mk (below_drew (Below.refl w5.heap.size w5))
   generalize w5.drew = W0 at HB0 hHeld ⊢
   refine pure_ (i := 0) (N := some 29) (v := ?_) (a' := ?_) #[true, false, false, false, false, false] rfl rfl (any_of HT_.out (by kernel_rfl)) (fun _ _ _ h => h) (Or.inl ⟨by rfl, ?_⟩) ?_ ?_
   rotate_left
   ·intro w'
    go_simp
    with_reducible rfl
   rotate_left
   ·simp only [Act.put, List.setIfInBounds_toArray, List.set_cons_zero, List.set_cons_succ, i64_w, i32_w]
    rfl
   refine take_ (i := 1) (N := some 30) (v := ?_) (a' := ?_) #[true, true, false, false, false, false] rfl rfl (take_ofW HT_.out HW_.out (by kernel_rfl)) (fun _ _ _ h => h) (Or.inl ⟨by rfl, ?_⟩) hHeld ?_ ?_
   rotate_left
   ·rintro w' s0
    go_simp
    with_reducible rfl
   rotate_left
   ·simp only [Act.put, List.setIfInBounds_toArray, List.set_cons_zero, List.set_cons_succ, i64_w, i32_w]
    rfl
   refine pure_ (i := 2) (N := some 31) (v := ?_) (a' := ?_) #[true, true, true, false, false, false] rfl rfl (any_of HT_.out (by kernel_rfl)) (fun _ _ _ h => h) (Or.inl ⟨by rfl, ?_⟩) ?_ ?_
   rotate_left
   ·intro w'
    go_simp
    with_reducible rfl
   rotate_left
   ·simp only [Act.put, List.setIfInBounds_toArray, List.set_cons_zero, List.set_cons_succ, i64_w, i32_w]
    rfl
   refine one_ (i := 3) (N := some 32) #[true, true, true, true, false, false] rfl rfl (one_of HT_.out (by kernel_rfl)) (by decide) (fun K hK => ?_)
   refine goes_ Tryd.func50 (by kernel_rfl) rfl #[.slice A5 inp.length c5] (by rfl) rfl rfl (by (try simp only [List.map_toArray, List.map_cons, List.map_nil]); first | done | rfl) ?_
   refine (trimmed_calls A5 c5 inp W0 (Kd.C_below HI5.out HB0.out) HLC.out HLI.out).mono ?_
   rintro e w2 ⟨u, rfl, hO, hB2⟩
   refine ⟨_, rfl, ?_⟩
   obtain ⟨A6, c6, rfl, _, _⟩ := own_C hO
   have HB2 := Aside0.mk (HB0.out.trans (hB2.mono HB0.out.size))
   have HO6 := Aside0.mk (hO.mono (show w.heap.size ≤ W0.heap.size by have := HB0.out.size; have := HZ5.out; omega))
   clear hO hB2
   refine hK.out _ _ (pw_cell_below HB2.out x2) (fun hHeld => ?_)
   clear hK K
   refine norm_ (a' := ?_) ?_ ?_
   rotate_left
   ·show Act.put _ (some 32) _ = _
    simp only [Act.put, List.setIfInBounds_toArray, List.set_cons_zero, List.set_cons_succ, i64_w, i32_w]
    rfl
   refine pure_ (i := 4) (N := some 33) (v := ?_) (a' := ?_) #[true, true, true, true, true, false] rfl rfl (any_of HT_.out (by kernel_rfl)) (fun _ _ _ h => h) (Or.inl ⟨by rfl, ?_⟩) ?_ ?_
   rotate_left
   ·intro w'
    go_simp
    with_reducible rfl
   rotate_left
   ·simp only [Act.put, List.setIfInBounds_toArray, List.set_cons_zero, List.set_cons_succ, i64_w, i32_w]
    rfl
   refine last_ (i := 5) (N := none) #[true, true, true, true, true, true] rfl rfl (one_of HT_.out (by kernel_rfl)) (by decide) (fun K hK => ?_)
   have hro := pw_own_below HR5.out HB2.out
   have xc := (hro.cellAt 0 (by have := HN1.out; omega)).trans (rep_zero HN1.out)
   have xf := hro.frozenAt 0
   clear hro
   refine skip_ (w1 := ?_) (by rfl) rfl ?_ ?_
   rotate_left
   ·go_simp
    rfl
   refine hK.out _ _ ?_
   clear hK K
   refine done_ (done_of HT_.out (by kernel_rfl)) ?_
   have hgw : w2.grownBy (w2.setCell ⟨g2, 0, none⟩ (.slice A6 (trimL inp).length c6)) (some g2) := set_grown w2 g2 0 _
   have hro := pw_own_below HR5.out HB2.out
   have hrw := (hro.stored 0 (.slice A6 (trimL inp).length c6)).1
   have hr1 := pw_own_below HR1.out HB2.out
   have hb2s := HB2.out.size
   have hz5 := HZ5.out
   have hbo5 := (Array.getElem?_eq_some_iff.1 HC5.out).1
   have hx5l := (Array.getElem?_eq_some_iff.1 HX5.out).1
   have ty2 : ∃ c', w2.heap[g2]? = some (.cells c' 38 (0, 0)) := own_typed hro g2 rfl
   obtain ⟨c9', hc9⟩ := ty2
   have hcb : w2.heap[bo]? = some (.cells #[.int .i64 0, .slice (some ⟨g1, 0, none⟩) n n, .slice (some ⟨g2, 0, none⟩) n n] 43 (0, 0)) := (HB2.out.block _ hbo5).trans HC5.out
   have hcx : w2.heap[w.heap.size + 1]? = some (.cells #[.int .i64 0, .slice none 0 0, .slice none 0 0] 43 (0, 0)) := (HB2.out.block _ hx5l).trans HX5.out
   have HC3 : Aside0 ((w2.setCell ⟨g2, 0, none⟩ (.slice A6 (trimL inp).length c6)).heap[bo]? = some (.cells #[.int .i64 0, .slice (some ⟨g1, 0, none⟩) n n, .slice (some ⟨g2, 0, none⟩) n n] 43 (0, 0))) := ⟨(hgw.block _ (Array.getElem?_eq_some_iff.1 hcb).1 (by intro e; injection e with e; exact ne_of_typed hcb hc9 (by decide) e)).trans hcb⟩
   have HX3 : Aside0 ((w2.setCell ⟨g2, 0, none⟩ (.slice A6 (trimL inp).length c6)).heap[w.heap.size + 1]? = some (.cells #[.int .i64 0, .slice none 0 0, .slice none 0 0] 43 (0, 0))) := ⟨(hgw.block _ (Array.getElem?_eq_some_iff.1 hcx).1 (by intro e; injection e with e; exact ne_of_typed hcx hc9 (by decide) e)).trans hcx⟩
   have ne25 : ∀ {m : Nat} {x : Value} {xs : List Value}, w2.ownsRow w.heap.size 3 1 x m xs → ∀ k, x.ownBlock = some k → some g2 ≠ some k := fun hx k hk e => by
    obtain ⟨c', hc'⟩ := own_typed hx k hk
    injection e with e
    exact ne_of_typed hc9 hc' (by decide) e
   have HA3 := Aside0.mk (kept_of hr1 hgw (ne25 hr1))
   have HU3 := Aside0.mk (kept_of HO6.out hgw (ne25 HO6.out))
   have HT3 := Aside0.mk hrw
   have HG2 : Aside0 (w.heap.size ≤ g2) := ⟨own_base hro g2 rfl⟩
   have HB3 : Aside0 (Below w.heap.size w (w2.setCell ⟨g2, 0, none⟩ (.slice A6 (trimL inp).length c6))) := ⟨((HB5.out.trans (HB2.out.mono HZ5.out)).setCell (p := ⟨g2, 0, none⟩) HG2.out _)⟩
   generalize w2.setCell ⟨g2, 0, none⟩ (.slice A6 (trimL inp).length c6) = w3 at HC3 HX3 HA3 HU3 HT3 HB3 ⊢
   obtain ⟨p0, p1, p2⟩ := trio_cells HC3.out
   obtain ⟨x0, x1, x2'⟩ := trio_cells HX3.out
   have y0 := run_frozen HX3.out 0
   have y1 := run_frozen HX3.out 1
   have y2 := run_frozen HX3.out 2
   have zz := (Array.getElem?_eq_some_iff.1 HX3.out).1
   have hne := HNB.out
   have hne2 := HNB.out.symm
   clear hgw hro hrw hr1 hb2s hz5 hbo5 hx5l hc9 hcb hcx ne25 xc xf x2
   go_wp2
   refine bodyPost_ret (v := .tuple #[.agg #[.int .i64 0, .slice (some ⟨g1, 0, none⟩) n n, .slice (some ⟨g2, 0, none⟩) n n], .int .i64 0]) (by simp [results, Tryd.results46, go_sem, x0, x1, x2', y0, y1, y2, zz]) rfl ?_
   rw [HO.out]
   have hgf : w3.grownBy (((w3.setCell ⟨w.heap.size + 1, 0, none⟩ (.int .i64 0)).setCell ⟨w.heap.size + 1, 1, none⟩ (.slice (some ⟨g1, 0, none⟩) n n)).setCell ⟨w.heap.size + 1, 2, none⟩ (.slice (some ⟨g2, 0, none⟩) n n)) (some (w.heap.size + 1)) := grown_trans (grown_trans (set_grown w3 _ 0 _) (set_grown _ _ 1 _)) (set_grown _ _ 2 _)
   have ne32 : ∀ {m e : Nat} {x : Value} {xs : List Value}, w3.ownsRow w.heap.size e 1 x m xs → e ≠ 43 → ∀ k, x.ownBlock = some k → some (w.heap.size + 1) ≠ some k := fun hx he k hk e => by
    obtain ⟨c', hc'⟩ := own_typed hx k hk
    injection e with e
    exact ne_of_typed HX3.out hc' (Ne.symm he) e
   have r1 := kept_of HA3.out hgf (ne32 HA3.out (by decide))
   have r2 := kept_of HT3.out hgf (ne32 HT3.out (by decide))
   have r3 := kept_of HU3.out hgf (ne32 HU3.out (by decide))
   have el : (List.replicate n (Value.slice none 0 0)).set 0 (.slice A6 (trimL inp).length c6) = (.slice A6 (trimL inp).length c6) :: List.replicate (n - 1) (.slice none 0 0) := by
    obtain ⟨k, hk⟩ : ∃ k, n = k + 1 := ⟨n - 1, by have := HN1.out; omega⟩
    rw [hk]; rfl
   rw [el] at r2
   have ln : ((.slice A6 (trimL inp).length c6) :: List.replicate (n - 1) (Value.slice none 0 0)).length = n := by have := HN1.out; simp; omega
   have lt : (trimL inp :: List.replicate (n - 1) ([] : List Int)).length = n := by have := HN1.out; simp; omega
   have hfb := (((HB3.out.setCell (p := ⟨w.heap.size + 1, 0, none⟩) (by simp) (.int .i64 0)).setCell (p := ⟨w.heap.size + 1, 1, none⟩) (by simp) (.slice (some ⟨g1, 0, none⟩) n n)).setCell (p := ⟨w.heap.size + 1, 2, none⟩) (by simp) (.slice (some ⟨g2, 0, none⟩) n n))
   refine ⟨_, rfl, fun u0 hu0 => ?_, hfb⟩
   obtain ⟨X1, y1', e1, h1l, h1c⟩ := own_C (l := List.replicate n 0) (by rw [List.length_replicate, List.map_replicate]; exact own_agree r1 hu0)
   obtain ⟨X2, y2', e2, h2l, h2c⟩ := own_C2 (vs := (.slice A6 (trimL inp).length c6) :: List.replicate (n - 1) (.slice none 0 0)) (tp := trimL inp :: List.replicate (n - 1) []) (by rw [ln]; exact own_agree r2 hu0) (by rw [ln, lt]) (by
    intro i u m hu hm
    cases i with
    | zero =>
     simp only [List.getElem?_cons_zero, Option.some.injEq] at hu hm
     subst hu; subst hm
     exact own_agree r3 hu0
    | succ i =>
     simp only [List.getElem?_cons_succ, List.getElem?_replicate] at hu hm
     by_cases hlt : i < n - 1
     ·rw [if_pos hlt] at hu hm
      injection hu with hu
      injection hm with hm
      subst hu; subst hm
      exact World.ownsRow_nil _ _ _ _
     ·rw [if_neg hlt] at hu
      cases hu)
   refine ⟨some ⟨g1, 0, none⟩, n, some ⟨g2, 0, none⟩, n, ?_, ?_, ?_, ?_, ?_⟩
   ·rw [lt, List.length_replicate]
   ·rw [List.length_replicate]; exact Nat.le_refl _
   ·injection e1 with e3 _ e4; subst e3; exact h1c
   ·rw [lt]; exact Nat.le_refl _
   ·injection e2 with e3 _ e4; subst e3; exact h2c
theorem start_walk (a0 a1 a2 : Int) (A : Option Addr) (c : Nat) (l : List S40) (A5 : Option Addr) (c5 : Nat) (inp : List Int) (w : World) (hr : Kd.C k40 w A l.length l) (h5 : Kd.C (Kd.int .i64) w A5 inp.length inp) (hlc : inp.length ≤ c5) :
  Calls Tryd.prog 46 #[.agg #[.int .i64 a0, .int .i64 a1, .int .i64 a2, .slice A l.length c], .slice A5 inp.length c5] w (StartOut w (startF a0 a1 a2 l inp)) :=
 (start_walkF a0 a1 a2 A c l A5 c5 inp w hr h5 hlc).mono (by
  rintro e w' ⟨v, rfl, h, hb⟩
  exact ⟨v, rfl, h w' (fun _ _ => rfl), hb⟩)
end Go.Proofs.YtfoodfhhdbaieaaDoor.Giv
