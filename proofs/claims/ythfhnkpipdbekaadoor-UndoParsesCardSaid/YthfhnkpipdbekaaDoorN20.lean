-- CUT by a program of this session: what the claim does not use is left out
import Derived.Test.YthfhnkpipdbekaaDoorQ21
import Derived.Test.YthfhnkpipdbekaaDoorN18
namespace Go.Proofs.YthfhnkpipdbekaaDoor.Giv
set_option linter.unusedVariables false
set_option linter.unusedSimpArgs false
open Go.RowKit Go.Shelf Go.Proofs.YthfhnkpipdbekaaDoorW.PrintWords Go.Proofs.YthfhnkpipdbekaaDoorW.PrintLast Go.Proofs.YthfhnkpipdbekaaDoorW.PrintMore
open Go.Proofs.YthfhnkpipdbekaaDoor.Ua (S67 k67 z67 rd_T67 at_T67 k67_open k67_mkM)
open Go.Proofs.YthfhnkpipdbekaaDoor.Pure (isK fldN rdW opK kindR readOpQ readV splR)
def commodatumref12_readOp.f (a0 : ByteArray) : Option (Int × Int × Int × Int × Bool) := if a0.size ≤ 100000 then some ((readOpQ a0).1.f0, (readOpQ a0).1.f1, (readOpQ a0).1.f2, (readOpQ a0).1.f3, (readOpQ a0).2) else none
structure StrsAt (w : World) (b : Nat) (xs : List ByteArray) : Prop where
 row : ∃ cells, w.heap[b]? = some (.cells cells 9 (0, 0)) ∧ ∀ j : Nat, j < xs.length → cells[j]? = some (.string (xs.getD j ByteArray.empty))
theorem StrsAt.cell {w : World} {b : Nat} {xs : List ByteArray} (h : StrsAt w b xs) {j : Nat} (hj : j < xs.length) : w.cell? ⟨b, j, none⟩ = some (.string (xs.getD j ByteArray.empty)) := by
 obtain ⟨cells, h1, h2⟩ := h.row
 simp only [World.cell?, h1]
 simpa using h2 j hj
theorem StrsAt.lt {w : World} {b : Nat} {xs : List ByteArray} (h : StrsAt w b xs) : b < w.heap.size := by
 obtain ⟨cells, h1, _⟩ := h.row
 exact (Array.getElem?_eq_some_iff.1 h1).1
theorem StrsAt.later {w w' : World} {b : Nat} {xs : List ByteArray} (h : StrsAt w b xs) (hb : Below w.heap.size w w') : StrsAt w' b xs := by
 have hl := h.lt
 obtain ⟨cells, h1, h2⟩ := h.row
 exact ⟨cells, (hb.block b hl).trans h1, h2⟩
theorem split_calls2 (a0 : ByteArray) (w : World) (hs : a0.size ≤ 100000) (ws : List ByteArray) (hws : splR a0 blank 0 0 = ws) (m : Nat) (hm : m = ws.length) : Calls Tryd.prog 44 #[.string a0, .string ⟨#[32]⟩] w fun e w' => ∃ b c, e = .returned (.slice (some ⟨b, 0, none⟩) m c) ∧ w.heap.size ≤ b ∧ StrsAt w' b ws ∧ Below w.heap.size w w' := by
 subst hm; subst hws
 obtain ⟨k, hk⟩ := Pure.split_ev a0 blank hs (by decide) (by decide)
 refine (Tx.commodatumref12_Split.calls k _ _ _ w (hk k (Nat.le_refl _))).mono ?_
 rintro e w' ⟨v, rfl, hr, hb⟩
 have hp : 0 < (splR a0 blank 0 0).length := List.length_pos_iff.2 (Pure.splR_ne _ _ _ _)
 obtain ⟨g, cap, rfl, hg1, hg2, cells, hcells⟩ := Kd.R_form hr hp
 refine ⟨g, cap, rfl, hg1, ⟨cells, hcells, fun j hj => ?_⟩, hb⟩
 have := (Kd.R_cell ByteArray.empty hr (j : Int) (by omega) (by omega)).1
 simp only [World.cell?, hcells, Int.toNat_natCast] at this
 simpa [rdOf] using this
theorem read_calls (s : ByteArray) (w : World) : Calls Tryd.prog 45 #[.string s] w fun e w' => e = .returned (.int .i64 (readV s.data.toList)) ∧ Below w.heap.size w w' := by
 obtain ⟨k, hk⟩ := Pure.read_ev s
 refine (Tx.commodatumref12_Read.calls k _ _ w (hk k (Nat.le_refl _))).mono ?_
 rintro e w' ⟨rfl, hd⟩
 exact ⟨rfl, hd.below⟩
theorem fields_calls (k : Nat) (hk : k < 4) (w : World) : Calls Tryd.prog 80 #[.int .i64 (k : Int)] w fun e w' => e = .returned (.int .i64 (fldN k : Int)) ∧ Below w.heap.size w w' := by
 obtain ⟨r, hr⟩ := Pure.fields_nat hk
 refine (Ta.commodatumref12_fields.calls r _ _ w (hr r (Nat.le_refl _))).mono ?_
 rintro e w' ⟨rfl, hd⟩
 exact ⟨rfl, hd.below⟩
theorem resSet {w wr : World} {z0 z1 z2 z3 : Value} (hbox : wr.heap[w.heap.size]? = some (.cells #[z0, z1, z2, z3] 67)) {o : Obj} (hb : Below (w.alloc o).heap.size (w.alloc o) wr) (v0 v1 v2 v3 : Value) :
  ((((wr.setCell ⟨w.heap.size, 0, none⟩ v0).setCell ⟨w.heap.size, 1, none⟩ v1).setCell ⟨w.heap.size, 2, none⟩ v2).setCell ⟨w.heap.size, 3, none⟩ v3).heap[w.heap.size]? = some (.cells #[v0, v1, v2, v3] 67) ∧ Below w.heap.size w ((((wr.setCell ⟨w.heap.size, 0, none⟩ v0).setCell ⟨w.heap.size, 1, none⟩ v1).setCell ⟨w.heap.size, 2, none⟩ v2).setCell ⟨w.heap.size, 3, none⟩ v3) := by
 have h0 : Below w.heap.size w wr := below_step (below_alloc (Below.refl w.heap.size w) o) hb
 refine ⟨?_, below_set (below_set (below_set (below_set h0 (Nat.le_refl _)) (Nat.le_refl _)) (Nat.le_refl _)) (Nat.le_refl _)⟩
 exact blk_set (blk_set (blk_set (blk_set hbox 0 v0) 1 v1) 2 v2) 3 v3
def rdP (ws : List ByteArray) (i j : Nat) : Int := if j < i then readV (ws.getD j ByteArray.empty).data.toList else 0
theorem StrsAt.set {w : World} {b g j : Nat} {v : Value} {xs : List ByteArray} (h : StrsAt w b xs) (hne : b ≠ g) : StrsAt (w.setCell ⟨g, j, none⟩ v) b xs := by
 obtain ⟨cells, h1, h2⟩ := h.row
 exact ⟨cells, (Below.heap_setCell w ⟨g, j, none⟩ v b hne).trans h1, h2⟩
theorem opK_rdP {ws : List ByteArray} {m : Nat} (hm : m = ws.length) (k : Nat) : opK ws k = ⟨(k : Int), rdP ws m 1, rdP ws m 2, rdP ws m 3⟩ := by
 subst hm; rfl
def reg46_5.T : Bool × List (List Nat × List Nat) := (true, [([], []), ([0], [0]), ([1], [1]), ([], []), ([3], [3]), ([2, 4], [2, 4]), ([5, 4], [5]), ([6], [6]), ([7, 6], [6, 7]), ([6], [6]), ([9, 6, 6], [6, 9]), ([10, 6], [6, 10]), ([8, 11, 6], [6, 8, 11]), ([6, 12], [6, 12])])
def reg46_5.B : List Nat := [0, 1, 3, 0, 8, 31, 63, 127, 255, 127, 639, 1663, 4095, 8191]
theorem reg46_5.tab : rtab .any (opsOf Tryd.f46 5) = reg46_5.T := by kernel_rfl
theorem reg46_5.bits : waitsOk reg46_5.T.2 reg46_5.B = true := by kernel_rfl
set_option maxHeartbeats 8000000 in
set_option maxRecDepth 100000 in
theorem commodatumref12_readOp.calls (a0 : ByteArray) (r1 r2 r3 r4 : Int) (r5 : Bool) (w : World) (h : commodatumref12_readOp.f a0 = some (r1, r2, r3, r4, r5)) :
  Calls Tryd.prog 46 #[.string a0] w fun e w' => e = .returned (.tuple #[.agg #[.int .i64 r1, .int .i64 r2, .int .i64 r3, .int .i64 r4], .bool r5]) ∧ Below w.heap.size w w' := by
 have HB := Aside0.mk (Below.refl w.heap.size w)
 unfold commodatumref12_readOp.f at h
 by_cases hs : a0.size ≤ 100000
 case neg => rw [if_neg hs] at h; cases h
 rw [if_pos hs] at h
 obtain ⟨q, hq⟩ : ∃ q, q = readOpQ a0 := ⟨_, rfl⟩
 rw [← hq] at h
 simp only [Option.some.injEq, Prod.mk.injEq] at h
 obtain ⟨rfl, rfl, rfl, rfl, rfl⟩ := h
 obtain ⟨ws, hws⟩ : ∃ ws, splR a0 blank 0 0 = ws := ⟨_, rfl⟩
 unfold readOpQ at hq
 rw [hws] at hq
 have HQ := Aside0.mk hq
 have HWS := Aside0.mk hws
 have HS := Aside0.mk hs
 obtain ⟨m, hm⟩ : ∃ m, m = ws.length := ⟨_, rfl⟩
 have HM := Aside0.mk hm
 have HMP : Aside0 (0 < m ∧ m ≤ 100001) := ⟨by
  have h1 : 0 < ws.length := List.length_pos_iff.2 (by rw [← hws]; exact Pure.splR_ne _ _ _ _)
  have h2 := Pure.splR_len a0 blank 0 0 (by omega)
  rw [hws] at h2
  omega⟩
 clear hq hws hs hm
 go_enter Tryd.func46, Tryd.ntmps46
 go_wp2_with (first
  | (go_at_call 44; refine (split_calls2 a0 _ HS.out ws HWS.out m HM.out).mono ?_; rintro e w2 ⟨b2, c2, rfl, hb2, hn2, hb⟩; have HST := Aside0.mk hn2; have HB2 : Aside0 (w.heap.size < b2) := ⟨by have h := hb2; simp at h; omega⟩; have HBW := Aside0.mk hb; clear hb hb2 hn2))
 go_loopg [5, 6, 7] 4 (fun gg s5 _ _ wr => ∃ k : Nat, s5 = .int .i64 (k : Int) ∧ Aside0 (k ≤ 4) ∧ Aside0 (4 - k = gg) ∧ Aside0 (q = kindR ws (4 - k) k) ∧ Aside0 (StrsAt wr b2 ws) ∧ Aside0 (Below (w.alloc (.cells #[.int .i64 0, .int .i64 0, .int .i64 0, .int .i64 0] 67)).heap.size (w.alloc (.cells #[.int .i64 0, .int .i64 0, .int .i64 0, .int .i64 0] 67)) wr))
 case atStart => exact ⟨0, rfl, ⟨by omega⟩, ⟨by omega⟩, HQ, HST, HBW⟩
 case round =>
  clear HST HBW
  obtain ⟨k, rfl, HK1, HK2, HQK, HSR, HBR⟩ := hrel
  by_cases ck : k < 4
  ·have ckb : decide ((k : Int) < 4) = true := decide_eq_true (by omega)
   have ckc : decide (k < 4) = true := decide_eq_true ck
   have HKW : Aside0 ((k : Int) = 0 ∨ (k : Int) = 1 ∨ (k : Int) = 2 ∨ (k : Int) = 3) := ⟨by omega⟩
   have CK := Aside0.mk ck
   clear ck
   have HQS : Aside0 (q = if isK ws k = true then (opK ws k, true) else kindR ws (4 - (k + 1)) (k + 1)) := ⟨by
    have h := HQK.out
    have hd : 4 - k = (4 - (k + 1)) + 1 := by have := CK.out; omega
    rw [hd] at h
    exact h⟩
   obtain ⟨z, hz⟩ : ∃ z, z = ws.getD 0 ByteArray.empty := ⟨_, rfl⟩
   have HZ : Aside0 (ws.headD ByteArray.empty = z) := ⟨by rw [hz]; cases ws <;> rfl⟩
   have hw0 := HSR.out.cell (j := 0) (by rw [← HM.out]; exact HMP.out.1)
   rw [← hz] at hw0
   clear hz
   have pm : (0 < (m : Int)) = True := eq_true (by have := HMP.out; omega)
   have pm2 : (0 < m) = True := eq_true HMP.out.1
   by_cases hzk : z.toList = (wordS (k : Int)).toList
   ·have z1 : (z.toList != (wordS (k : Int)).toList) = false := bne_eq_false_iff_eq.2 hzk
    have z2 : (z.toList == (wordS (k : Int)).toList) = true := beq_iff_eq.2 hzk
    have HZK := Aside0.mk hzk
    clear hzk
    obtain ⟨f, hf⟩ : ∃ f, f = fldN k := ⟨_, rfl⟩
    have HF := Aside0.mk hf
    have HF2 : Aside0 (1 ≤ f ∧ f ≤ 3) := ⟨by rw [hf]; unfold fldN; split <;> (try split) <;> omega⟩
    clear hf
    have HWF : Aside0 (IntKind.i64.wrap (1 + (f : Int)) = 1 + (f : Int)) := ⟨by have := HF2.out; rw [IntKind.wrap_i64]; omega⟩
    by_cases hmf : m = 1 + f
    ·have y1 : ((m : Int) != 1 + (f : Int)) = false := bne_eq_false_iff_eq.2 (by omega)
     have HMF := Aside0.mk hmf
     clear hmf
     have HQ2 : Aside0 (q = (opK ws k, true)) := ⟨by
      have : isK ws k = true := by
       unfold isK; rw [HZ.out, z2, Bool.true_and, decide_eq_true_eq, ← HM.out, HMF.out, HF.out]
      rw [HQS.out, if_pos this]⟩
     go_wp2
     refine start_ (n := 14) (S := fun w' => w'.cell? ⟨b2, 0, none⟩ = some (.string z)) (ds := []) #[false, false, false, false, false, false, false, false, false, false, false, false, false, false] (by kernel_rfl) rfl rfl hw0 (fun hHeld => ?_); refine with_tabW reg46_5.tab reg46_5.bits (fun HT_ HW_ => ?_)
     have HSR0 : Aside0 (StrsAt wr.drew b2 ws) := ⟨HSR.out.later (below_drew (Below.refl _ _))⟩
     have HBR0 := Aside0.mk (below_drew HBR.out)
     generalize wr.drew = W1 at HSR0 HBR0 hHeld ⊢
     clear hw0 HSR HBR
     refine pure_ (i := 0) (N := some 14) (v := ?_) (a' := ?_) #[true, false, false, false, false, false, false, false, false, false, false, false, false, false] rfl rfl (any_of HT_.out (by kernel_rfl)) (fun _ _ _ h => h) (Or.inl ⟨by rfl, ?_⟩) ?_ ?_
     rotate_left
     ·intro w'
      go_simp
      with_reducible rfl
     rotate_left
     ·simp only [Act.put, List.setIfInBounds_toArray, List.set_cons_zero, List.set_cons_succ, i64_w, i32_w]
      rfl
     refine pure_ (i := 1) (N := some 15) (v := ?_) (a' := ?_) #[true, true, false, false, false, false, false, false, false, false, false, false, false, false] rfl rfl (any_of HT_.out (by kernel_rfl)) (fun _ _ _ h => h) (Or.inl ⟨by rfl, ?_⟩) ?_ ?_
     rotate_left
     ·intro w'
      go_simp
      with_reducible rfl
     rotate_left
     ·simp only [Act.put, List.setIfInBounds_toArray, List.set_cons_zero, List.set_cons_succ, i64_w, i32_w]
      rfl
     refine take_ (i := 2) (N := some 16) (v := ?_) (a' := ?_) #[true, true, true, false, false, false, false, false, false, false, false, false, false, false] rfl rfl (take_ofW HT_.out HW_.out (by kernel_rfl)) (fun _ _ _ h => h) (Or.inl ⟨by rfl, ?_⟩) hHeld ?_ ?_
     rotate_left
     ·rintro w' s1
      go_simp
      with_reducible rfl
     rotate_left
     ·simp only [Act.put, List.setIfInBounds_toArray, List.set_cons_zero, List.set_cons_succ, i64_w, i32_w]
      rfl
     refine pure_ (i := 3) (N := some 17) (v := ?_) (a' := ?_) #[true, true, true, true, false, false, false, false, false, false, false, false, false, false] rfl rfl (any_of HT_.out (by kernel_rfl)) (fun _ _ _ h => h) (Or.inl ⟨by rfl, ?_⟩) ?_ ?_
     rotate_left
     ·intro w'
      go_simp
      with_reducible rfl
     rotate_left
     ·simp only [Act.put, List.setIfInBounds_toArray, List.set_cons_zero, List.set_cons_succ, i64_w, i32_w]
      rfl
     refine one_ (i := 4) (N := some 18) #[true, true, true, true, true, false, false, false, false, false, false, false, false, false] rfl rfl (one_of HT_.out (by kernel_rfl)) (by decide) (fun K hK => ?_)
     refine goes_ Tryd.func62 (by kernel_rfl) rfl #[.int .i64 (k : Int)] (by rfl) rfl rfl (by (try simp only [List.map_toArray, List.map_cons, List.map_nil]); first | done | rfl) ?_
     refine (word_calls (k : Int) W1 HKW.out).mono ?_
     rintro e w4 ⟨rfl, hb4⟩
     refine ⟨_, rfl, ?_⟩
     have HSR4 := Aside0.mk (HSR0.out.later hb4)
     have HBR4 := Aside0.mk (below_step HBR0.out hb4)
     refine hK.out _ _ (pw_cell_below hb4 hHeld) (fun hHeld => ?_)
     clear hK K
     refine norm_ (a' := ?_) ?_ ?_
     rotate_left
     ·show Act.put _ (some 18) _ = _
      simp only [Act.put, List.setIfInBounds_toArray, List.set_cons_zero, List.set_cons_succ, i64_w, i32_w]
      rfl
     clear hb4
     refine pure_ (i := 5) (N := some 19) (v := ?_) (a' := ?_) #[true, true, true, true, true, true, false, false, false, false, false, false, false, false] rfl rfl (any_of HT_.out (by kernel_rfl)) (fun _ _ _ h => h) (Or.inl ⟨by rfl, ?_⟩) ?_ ?_
     rotate_left
     ·intro w'
      go_simp
      with_reducible rfl
     rotate_left
     ·simp only [Act.put, List.setIfInBounds_toArray, List.set_cons_zero, List.set_cons_succ, i64_w, i32_w]
      rfl
     refine pure_ (i := 6) (N := some 20) (v := ?_) (a' := ?_) #[true, true, true, true, true, true, true, false, false, false, false, false, false, false] rfl rfl (any_of HT_.out (by kernel_rfl)) (fun _ _ _ h => h) (Or.inl ⟨by rfl, ?_⟩) ?_ ?_
     rotate_left
     ·intro w'
      go_simp
      with_reducible rfl
     rotate_left
     ·simp only [Act.put, List.setIfInBounds_toArray, List.set_cons_zero, List.set_cons_succ, i64_w, i32_w]
      rfl
     refine pure_ (i := 7) (N := some 21) (v := ?_) (a' := ?_) #[true, true, true, true, true, true, true, true, false, false, false, false, false, false] rfl rfl (any_of HT_.out (by kernel_rfl)) (fun _ _ _ h => h) (Or.inl ⟨by rfl, ?_⟩) ?_ ?_
     rotate_left
     ·intro w'
      go_simp
      with_reducible rfl
     rotate_left
     ·simp only [Act.put, List.setIfInBounds_toArray, List.set_cons_zero, List.set_cons_succ, i64_w, i32_w]
      rfl
     refine pure_ (i := 8) (N := some 22) (v := ?_) (a' := ?_) #[true, true, true, true, true, true, true, true, true, false, false, false, false, false] rfl rfl (any_of HT_.out (by kernel_rfl)) (fun _ _ _ h => h) (Or.inl ⟨by rfl, ?_⟩) ?_ ?_
     rotate_left
     ·intro w'
      go_simp
      with_reducible rfl
     rotate_left
     ·simp only [Act.put, List.setIfInBounds_toArray, List.set_cons_zero, List.set_cons_succ, i64_w, i32_w]
      rfl
     refine pure_ (i := 9) (N := some 23) (v := ?_) (a' := ?_) #[true, true, true, true, true, true, true, true, true, true, false, false, false, false] rfl rfl (any_of HT_.out (by kernel_rfl)) (fun _ _ _ h => h) (Or.inl ⟨by rfl, ?_⟩) ?_ ?_
     rotate_left
     ·intro w'
      go_simp
      with_reducible rfl
     rotate_left
     ·simp only [Act.put, List.setIfInBounds_toArray, List.set_cons_zero, List.set_cons_succ, i64_w, i32_w]
      rfl
     refine one_ (i := 10) (N := some 24) #[true, true, true, true, true, true, true, true, true, true, true, false, false, false] rfl rfl (one_of HT_.out (by kernel_rfl)) (by decide) (fun K hK => ?_)
     refine goes_ Tryd.func80 (by kernel_rfl) rfl #[.int .i64 (k : Int)] (by rfl) rfl rfl (by (try simp only [List.map_toArray, List.map_cons, List.map_nil]); first | done | rfl) ?_
     refine (fields_calls k CK.out w4).mono ?_
     rintro e w5 ⟨rfl, hb5⟩
     refine ⟨_, rfl, ?_⟩
     rw [← HF.out]
     have HSR5 := Aside0.mk (HSR4.out.later hb5)
     have HBR5 := Aside0.mk (below_step HBR4.out hb5)
     refine hK.out _ _ (pw_cell_below hb5 hHeld) (fun hHeld => ?_)
     clear hK K
     refine norm_ (a' := ?_) ?_ ?_
     rotate_left
     ·show Act.put _ (some 24) _ = _
      simp only [Act.put, List.setIfInBounds_toArray, List.set_cons_zero, List.set_cons_succ, i64_w, i32_w]
      rfl
     clear hb5
     refine pure_ (i := 11) (N := some 25) (v := .int .i64 (1 + (f : Int))) (a' := ?_) #[true, true, true, true, true, true, true, true, true, true, true, true, false, false] rfl rfl (any_of HT_.out (by kernel_rfl)) (fun _ _ _ h => h) (Or.inl ⟨by rfl, ?_⟩) ?_ ?_
     ·intro w'
      go_simp
      rw [HWF.out]
     rotate_left
     ·simp only [Act.put, List.setIfInBounds_toArray, List.set_cons_zero, List.set_cons_succ, i64_w, i32_w]
      rfl
     refine pure_ (i := 12) (N := some 26) (v := ?_) (a' := ?_) #[true, true, true, true, true, true, true, true, true, true, true, true, true, false] rfl rfl (any_of HT_.out (by kernel_rfl)) (fun _ _ _ h => h) (Or.inl ⟨by rfl, ?_⟩) ?_ ?_
     rotate_left
     ·intro w'
      go_simp
      with_reducible rfl
     rotate_left
     ·simp only [Act.put, List.setIfInBounds_toArray, List.set_cons_zero, List.set_cons_succ, i64_w, i32_w]
      rfl
     refine pure_ (i := 13) (N := some 27) (v := ?_) (a' := ?_) #[true, true, true, true, true, true, true, true, true, true, true, true, true, true] rfl rfl (any_of HT_.out (by kernel_rfl)) (fun _ _ _ h => h) (Or.inl ⟨by rfl, ?_⟩) ?_ ?_
     rotate_left
     ·intro w'
      go_simp
      with_reducible rfl
     rotate_left
     ·simp only [Act.put, List.setIfInBounds_toArray, List.set_cons_zero, List.set_cons_succ, i64_w, i32_w]
      rfl
     refine done_ (done_of HT_.out (by kernel_rfl)) ?_
     clear hHeld
     go_wp2_with ((with_reducible refine gate_dst (N := 6) rfl ?_); refine box_event ?hg (N := 6) ?hd (cs := #[.int .i64 0, .int .i64 0, .int .i64 0]) (t := 100) ?hr ?_; (case hd => rfl); (case hg => rfl); (case hr => first | (go_simp; done) | (go_simp; rfl)); intro gb hgb w9 hbox hb; have HA9 := Aside0.mk hbox; have HGB := Aside0.mk hgb; have HSR9 := Aside0.mk (HSR5.out.later hb); have HBR9 := Aside0.mk (below_step HBR5.out hb); clear hbox hgb hb)
     have HGW : Aside0 (w.heap.size < gb ∧ b2 ≠ gb) := ⟨by have h1 := HBR5.out.size; have h2 := HSR5.out.lt; have h3 := HGB.out; simp at h1; exact ⟨by omega, by omega⟩⟩
     obtain ⟨wo, rfl⟩ : ∃ wo, wo = wr := ⟨_, rfl⟩
     go_loopg [7] (m - 1) (fun g2 s7 wr => ∃ (i : Nat) (I : Int), s7 = .int .i64 I ∧ Aside0 (I = (i : Int)) ∧ Aside0 (1 ≤ i ∧ i ≤ m) ∧ Aside0 (m - i = g2) ∧ Aside0 (StrsAt wr b2 ws) ∧ Aside0 (Below (w.alloc (.cells #[.int .i64 0, .int .i64 0, .int .i64 0, .int .i64 0] 67)).heap.size (w.alloc (.cells #[.int .i64 0, .int .i64 0, .int .i64 0, .int .i64 0] 67)) wr) ∧ Aside0 (wr.heap[gb]? = some (.cells #[.int .i64 (rdP ws i 1), .int .i64 (rdP ws i 2), .int .i64 (rdP ws i 3)] 100 (0, 0))))
     case atStart => exact ⟨1, 1, rfl, ⟨rfl⟩, ⟨by have := HMF.out; have := HF2.out; omega⟩, ⟨rfl⟩, HSR9, HBR9, ⟨by simpa [rdP] using HA9.out⟩⟩
     case round =>
      clear HSR9 HBR9 HA9
      obtain ⟨i, I, rfl, HII, HI, HI2, HSI, HBI, HAI⟩ := hrel
      by_cases ci : i < m
      ·have hmi := ci
       have hq := HSI.out.cell (j := i) (by rw [← HM.out]; exact ci)
       have CI := Aside0.mk ci
       clear ci hmi
       obtain ⟨x, hx⟩ : ∃ x, x = ws.getD i ByteArray.empty := ⟨_, rfl⟩
       rw [← hx] at hq
       have HX := Aside0.mk hx
       clear hx
       have hi3 : i = 1 ∨ i = 2 ∨ i = 3 := by have := HI.out; have := CI.out; have := HMF.out; have := HF2.out; omega
       rcases hi3 with rfl | rfl | rfl
       ·obtain rfl : I = 1 := HII.out
        have cib : decide ((1 : Int) < (m : Int)) = true := decide_eq_true (by have := CI.out; omega)
        have cic : decide (1 < m) = true := decide_eq_true CI.out
        have q1 : ((1 : Int) < (m : Int)) = True := eq_true (by have := CI.out; omega)
        have q2 : (1 < m) = True := eq_true CI.out
        go_wp2_with (go_at_call 45; refine (read_calls x _).mono ?_; rintro e w10 ⟨rfl, hb⟩; have HSI10 := Aside0.mk (HSI.out.later hb); have HBI10 := Aside0.mk (below_step HBI.out hb); have HAI10 := Aside0.mk ((hb.block gb (blk_lt HAI.out)).trans HAI.out); clear hb; have g0 : w10.cell? ⟨gb, 0, none⟩ = some (.int .i64 (rdP ws 1 1)) := (blk_cell HAI10.out 0).trans rfl; have fz0 := blk_frozen HAI10.out 0)
        go_roundg (m - 2)
        case measure => have := HI2.out; have := CI.out; omega
        case rel =>
         refine ⟨2, _, rfl, ⟨?_⟩, ⟨by have := CI.out; omega⟩, ⟨by omega⟩, ⟨HSI10.out.set HGW.out.2⟩, ⟨below_set HBI10.out (by have := HGW.out; simp; omega)⟩, ⟨?_⟩⟩
         ·first | rfl | (simp [wrap64])
         ·have h := blk_set HAI10.out 0 (.int .i64 (readV x.data.toList))
          rw [HX.out] at h ⊢
          simpa [rdP] using h
       ·obtain rfl : I = 2 := HII.out
        have cib : decide ((2 : Int) < (m : Int)) = true := decide_eq_true (by have := CI.out; omega)
        have cic : decide (2 < m) = true := decide_eq_true CI.out
        have q1 : ((2 : Int) < (m : Int)) = True := eq_true (by have := CI.out; omega)
        have q2 : (2 < m) = True := eq_true CI.out
        go_wp2_with (go_at_call 45; refine (read_calls x _).mono ?_; rintro e w10 ⟨rfl, hb⟩; have HSI10 := Aside0.mk (HSI.out.later hb); have HBI10 := Aside0.mk (below_step HBI.out hb); have HAI10 := Aside0.mk ((hb.block gb (blk_lt HAI.out)).trans HAI.out); clear hb; have g0 : w10.cell? ⟨gb, 1, none⟩ = some (.int .i64 (rdP ws 2 2)) := (blk_cell HAI10.out 1).trans rfl; have fz0 := blk_frozen HAI10.out 1)
        go_roundg (m - 3)
        case measure => have := HI2.out; have := CI.out; omega
        case rel =>
         refine ⟨3, _, rfl, ⟨?_⟩, ⟨by have := CI.out; omega⟩, ⟨by omega⟩, ⟨HSI10.out.set HGW.out.2⟩, ⟨below_set HBI10.out (by have := HGW.out; simp; omega)⟩, ⟨?_⟩⟩
         ·first | rfl | (simp [wrap64])
         ·have h := blk_set HAI10.out 1 (.int .i64 (readV x.data.toList))
          rw [HX.out] at h ⊢
          simpa [rdP] using h
       ·obtain rfl : I = 3 := HII.out
        have cib : decide ((3 : Int) < (m : Int)) = true := decide_eq_true (by have := CI.out; omega)
        have cic : decide (3 < m) = true := decide_eq_true CI.out
        have q1 : ((3 : Int) < (m : Int)) = True := eq_true (by have := CI.out; omega)
        have q2 : (3 < m) = True := eq_true CI.out
        go_wp2_with (go_at_call 45; refine (read_calls x _).mono ?_; rintro e w10 ⟨rfl, hb⟩; have HSI10 := Aside0.mk (HSI.out.later hb); have HBI10 := Aside0.mk (below_step HBI.out hb); have HAI10 := Aside0.mk ((hb.block gb (blk_lt HAI.out)).trans HAI.out); clear hb; have g0 : w10.cell? ⟨gb, 2, none⟩ = some (.int .i64 (rdP ws 3 3)) := (blk_cell HAI10.out 2).trans rfl; have fz0 := blk_frozen HAI10.out 2)
        go_roundg (m - 4)
        case measure => have := HI2.out; have := CI.out; omega
        case rel =>
         refine ⟨4, _, rfl, ⟨?_⟩, ⟨by have := CI.out; omega⟩, ⟨by omega⟩, ⟨HSI10.out.set HGW.out.2⟩, ⟨below_set HBI10.out (by have := HGW.out; simp; omega)⟩, ⟨?_⟩⟩
         ·first | rfl | (simp [wrap64])
         ·have h := blk_set HAI10.out 2 (.int .i64 (readV x.data.toList))
          rw [HX.out] at h ⊢
          simpa [rdP] using h
      ·have cib : decide (I < (m : Int)) = false := decide_eq_false (by have := HII.out; omega)
       have HIE : Aside0 (i = m) := ⟨by have := HI.out; omega⟩
       clear ci
       have HBX := Aside0.mk (box_later HBI.out)
       have e0 : wr.cell? ⟨w.heap.size, 0, none⟩ = some (.int .i64 0) := (blk_cell HBX.out 0).trans rfl
       have e1 : wr.cell? ⟨w.heap.size, 1, none⟩ = some (.int .i64 0) := (blk_cell HBX.out 1).trans rfl
       have e2 : wr.cell? ⟨w.heap.size, 2, none⟩ = some (.int .i64 0) := (blk_cell HBX.out 2).trans rfl
       have e3 : wr.cell? ⟨w.heap.size, 3, none⟩ = some (.int .i64 0) := (blk_cell HBX.out 3).trans rfl
       have f0 := blk_frozen HBX.out 0
       have f1 := blk_frozen HBX.out 1
       have f2 := blk_frozen HBX.out 2
       have f3 := blk_frozen HBX.out 3
       have a0' : wr.cell? ⟨gb, 0, none⟩ = some (.int .i64 (rdP ws i 1)) := (blk_cell HAI.out 0).trans rfl
       have a1' : wr.cell? ⟨gb, 1, none⟩ = some (.int .i64 (rdP ws i 2)) := (blk_cell HAI.out 1).trans rfl
       have a2' : wr.cell? ⟨gb, 2, none⟩ = some (.int .i64 (rdP ws i 3)) := (blk_cell HAI.out 2).trans rfl
       go_wp2
       obtain ⟨hw1, hw2⟩ := resSet HBX.out HBI.out (.int .i64 (k : Int)) (.int .i64 (rdP ws i 1)) (.int .i64 (rdP ws i 2)) (.int .i64 (rdP ws i 3))
       generalize ((((wr.setCell ⟨w.heap.size, 0, none⟩ (.int .i64 (k : Int))).setCell ⟨w.heap.size, 1, none⟩ (.int .i64 (rdP ws i 1))).setCell ⟨w.heap.size, 2, none⟩ (.int .i64 (rdP ws i 2))).setCell ⟨w.heap.size, 3, none⟩ (.int .i64 (rdP ws i 3))) = W at hw1 hw2 ⊢
       have g0 : W.cell? ⟨w.heap.size, 0, none⟩ = some (.int .i64 (k : Int)) := (blk_cell hw1 0).trans rfl
       have g1 : W.cell? ⟨w.heap.size, 1, none⟩ = some (.int .i64 (rdP ws i 1)) := (blk_cell hw1 1).trans rfl
       have g2 : W.cell? ⟨w.heap.size, 2, none⟩ = some (.int .i64 (rdP ws i 2)) := (blk_cell hw1 2).trans rfl
       have g3 : W.cell? ⟨w.heap.size, 3, none⟩ = some (.int .i64 (rdP ws i 3)) := (blk_cell hw1 3).trans rfl
       refine bodyPost_ret (v := .tuple #[.agg #[.int .i64 (k : Int), .int .i64 (rdP ws i 1), .int .i64 (rdP ws i 2), .int .i64 (rdP ws i 3)], .bool true]) (by simp [results, Tryd.results46, go_sem, g0, g1, g2, g3]) rfl ?_
       rw [HQ2.out, opK_rdP HM.out, HIE.out]
       exact ⟨rfl, hw2⟩
    ·have y1 : ((m : Int) != 1 + (f : Int)) = true := bne_iff_ne.2 (by omega)
     have HQ2 : Aside0 (q = kindR ws (4 - (k + 1)) (k + 1)) := ⟨by
      have : isK ws k = false := by
       unfold isK
       rw [show decide (ws.length = 1 + fldN k) = false from decide_eq_false (by rw [← HM.out, ← HF.out]; exact hmf), Bool.and_false]
      rw [HQS.out, if_neg (by rw [this]; simp)]⟩
     clear hmf
     go_wp2
     refine start_ (n := 14) (S := fun w' => w'.cell? ⟨b2, 0, none⟩ = some (.string z)) (ds := []) #[false, false, false, false, false, false, false, false, false, false, false, false, false, false] (by kernel_rfl) rfl rfl hw0 (fun hHeld => ?_); refine with_tabW reg46_5.tab reg46_5.bits (fun HT_ HW_ => ?_)
     have HSR0 : Aside0 (StrsAt wr.drew b2 ws) := ⟨HSR.out.later (below_drew (Below.refl _ _))⟩
     have HBR0 := Aside0.mk (below_drew HBR.out)
     generalize wr.drew = W1 at HSR0 HBR0 hHeld ⊢
     clear hw0 HSR HBR
     refine pure_ (i := 0) (N := some 14) (v := ?_) (a' := ?_) #[true, false, false, false, false, false, false, false, false, false, false, false, false, false] rfl rfl (any_of HT_.out (by kernel_rfl)) (fun _ _ _ h => h) (Or.inl ⟨by rfl, ?_⟩) ?_ ?_
     rotate_left
     ·intro w'
      go_simp
      with_reducible rfl
     rotate_left
     ·simp only [Act.put, List.setIfInBounds_toArray, List.set_cons_zero, List.set_cons_succ, i64_w, i32_w]
      rfl
     refine pure_ (i := 1) (N := some 15) (v := ?_) (a' := ?_) #[true, true, false, false, false, false, false, false, false, false, false, false, false, false] rfl rfl (any_of HT_.out (by kernel_rfl)) (fun _ _ _ h => h) (Or.inl ⟨by rfl, ?_⟩) ?_ ?_
     rotate_left
     ·intro w'
      go_simp
      with_reducible rfl
     rotate_left
     ·simp only [Act.put, List.setIfInBounds_toArray, List.set_cons_zero, List.set_cons_succ, i64_w, i32_w]
      rfl
     refine take_ (i := 2) (N := some 16) (v := ?_) (a' := ?_) #[true, true, true, false, false, false, false, false, false, false, false, false, false, false] rfl rfl (take_ofW HT_.out HW_.out (by kernel_rfl)) (fun _ _ _ h => h) (Or.inl ⟨by rfl, ?_⟩) hHeld ?_ ?_
     rotate_left
     ·rintro w' s1
      go_simp
      with_reducible rfl
     rotate_left
     ·simp only [Act.put, List.setIfInBounds_toArray, List.set_cons_zero, List.set_cons_succ, i64_w, i32_w]
      rfl
     refine pure_ (i := 3) (N := some 17) (v := ?_) (a' := ?_) #[true, true, true, true, false, false, false, false, false, false, false, false, false, false] rfl rfl (any_of HT_.out (by kernel_rfl)) (fun _ _ _ h => h) (Or.inl ⟨by rfl, ?_⟩) ?_ ?_
     rotate_left
     ·intro w'
      go_simp
      with_reducible rfl
     rotate_left
     ·simp only [Act.put, List.setIfInBounds_toArray, List.set_cons_zero, List.set_cons_succ, i64_w, i32_w]
      rfl
     refine one_ (i := 4) (N := some 18) #[true, true, true, true, true, false, false, false, false, false, false, false, false, false] rfl rfl (one_of HT_.out (by kernel_rfl)) (by decide) (fun K hK => ?_)
     refine goes_ Tryd.func62 (by kernel_rfl) rfl #[.int .i64 (k : Int)] (by rfl) rfl rfl (by (try simp only [List.map_toArray, List.map_cons, List.map_nil]); first | done | rfl) ?_
     refine (word_calls (k : Int) W1 HKW.out).mono ?_
     rintro e w4 ⟨rfl, hb4⟩
     refine ⟨_, rfl, ?_⟩
     have HSR4 := Aside0.mk (HSR0.out.later hb4)
     have HBR4 := Aside0.mk (below_step HBR0.out hb4)
     refine hK.out _ _ (pw_cell_below hb4 hHeld) (fun hHeld => ?_)
     clear hK K
     refine norm_ (a' := ?_) ?_ ?_
     rotate_left
     ·show Act.put _ (some 18) _ = _
      simp only [Act.put, List.setIfInBounds_toArray, List.set_cons_zero, List.set_cons_succ, i64_w, i32_w]
      rfl
     clear hb4
     refine pure_ (i := 5) (N := some 19) (v := ?_) (a' := ?_) #[true, true, true, true, true, true, false, false, false, false, false, false, false, false] rfl rfl (any_of HT_.out (by kernel_rfl)) (fun _ _ _ h => h) (Or.inl ⟨by rfl, ?_⟩) ?_ ?_
     rotate_left
     ·intro w'
      go_simp
      with_reducible rfl
     rotate_left
     ·simp only [Act.put, List.setIfInBounds_toArray, List.set_cons_zero, List.set_cons_succ, i64_w, i32_w]
      rfl
     refine pure_ (i := 6) (N := some 20) (v := ?_) (a' := ?_) #[true, true, true, true, true, true, true, false, false, false, false, false, false, false] rfl rfl (any_of HT_.out (by kernel_rfl)) (fun _ _ _ h => h) (Or.inl ⟨by rfl, ?_⟩) ?_ ?_
     rotate_left
     ·intro w'
      go_simp
      with_reducible rfl
     rotate_left
     ·simp only [Act.put, List.setIfInBounds_toArray, List.set_cons_zero, List.set_cons_succ, i64_w, i32_w]
      rfl
     refine pure_ (i := 7) (N := some 21) (v := ?_) (a' := ?_) #[true, true, true, true, true, true, true, true, false, false, false, false, false, false] rfl rfl (any_of HT_.out (by kernel_rfl)) (fun _ _ _ h => h) (Or.inl ⟨by rfl, ?_⟩) ?_ ?_
     rotate_left
     ·intro w'
      go_simp
      with_reducible rfl
     rotate_left
     ·simp only [Act.put, List.setIfInBounds_toArray, List.set_cons_zero, List.set_cons_succ, i64_w, i32_w]
      rfl
     refine pure_ (i := 8) (N := some 22) (v := ?_) (a' := ?_) #[true, true, true, true, true, true, true, true, true, false, false, false, false, false] rfl rfl (any_of HT_.out (by kernel_rfl)) (fun _ _ _ h => h) (Or.inl ⟨by rfl, ?_⟩) ?_ ?_
     rotate_left
     ·intro w'
      go_simp
      with_reducible rfl
     rotate_left
     ·simp only [Act.put, List.setIfInBounds_toArray, List.set_cons_zero, List.set_cons_succ, i64_w, i32_w]
      rfl
     refine pure_ (i := 9) (N := some 23) (v := ?_) (a' := ?_) #[true, true, true, true, true, true, true, true, true, true, false, false, false, false] rfl rfl (any_of HT_.out (by kernel_rfl)) (fun _ _ _ h => h) (Or.inl ⟨by rfl, ?_⟩) ?_ ?_
     rotate_left
     ·intro w'
      go_simp
      with_reducible rfl
     rotate_left
     ·simp only [Act.put, List.setIfInBounds_toArray, List.set_cons_zero, List.set_cons_succ, i64_w, i32_w]
      rfl
     refine one_ (i := 10) (N := some 24) #[true, true, true, true, true, true, true, true, true, true, true, false, false, false] rfl rfl (one_of HT_.out (by kernel_rfl)) (by decide) (fun K hK => ?_)
     refine goes_ Tryd.func80 (by kernel_rfl) rfl #[.int .i64 (k : Int)] (by rfl) rfl rfl (by (try simp only [List.map_toArray, List.map_cons, List.map_nil]); first | done | rfl) ?_
     refine (fields_calls k CK.out w4).mono ?_
     rintro e w5 ⟨rfl, hb5⟩
     refine ⟨_, rfl, ?_⟩
     rw [← HF.out]
     have HSR5 := Aside0.mk (HSR4.out.later hb5)
     have HBR5 := Aside0.mk (below_step HBR4.out hb5)
     refine hK.out _ _ (pw_cell_below hb5 hHeld) (fun hHeld => ?_)
     clear hK K
     refine norm_ (a' := ?_) ?_ ?_
     rotate_left
     ·show Act.put _ (some 24) _ = _
      simp only [Act.put, List.setIfInBounds_toArray, List.set_cons_zero, List.set_cons_succ, i64_w, i32_w]
      rfl
     clear hb5
     refine pure_ (i := 11) (N := some 25) (v := .int .i64 (1 + (f : Int))) (a' := ?_) #[true, true, true, true, true, true, true, true, true, true, true, true, false, false] rfl rfl (any_of HT_.out (by kernel_rfl)) (fun _ _ _ h => h) (Or.inl ⟨by rfl, ?_⟩) ?_ ?_
     ·intro w'
      go_simp
      rw [HWF.out]
     rotate_left
     ·simp only [Act.put, List.setIfInBounds_toArray, List.set_cons_zero, List.set_cons_succ, i64_w, i32_w]
      rfl
     refine pure_ (i := 12) (N := some 26) (v := ?_) (a' := ?_) #[true, true, true, true, true, true, true, true, true, true, true, true, true, false] rfl rfl (any_of HT_.out (by kernel_rfl)) (fun _ _ _ h => h) (Or.inl ⟨by rfl, ?_⟩) ?_ ?_
     rotate_left
     ·intro w'
      go_simp
      with_reducible rfl
     rotate_left
     ·simp only [Act.put, List.setIfInBounds_toArray, List.set_cons_zero, List.set_cons_succ, i64_w, i32_w]
      rfl
     refine pure_ (i := 13) (N := some 27) (v := ?_) (a' := ?_) #[true, true, true, true, true, true, true, true, true, true, true, true, true, true] rfl rfl (any_of HT_.out (by kernel_rfl)) (fun _ _ _ h => h) (Or.inl ⟨by rfl, ?_⟩) ?_ ?_
     rotate_left
     ·intro w'
      go_simp
      with_reducible rfl
     rotate_left
     ·simp only [Act.put, List.setIfInBounds_toArray, List.set_cons_zero, List.set_cons_succ, i64_w, i32_w]
      rfl
     refine done_ (done_of HT_.out (by kernel_rfl)) ?_
     go_wp2
     go_roundg (4 - (k + 1))
     case measure => have := HK2.out; have := CK.out; omega
     case rel =>
      have := CK.out
      refine ⟨k + 1, ?_, ⟨by omega⟩, ⟨by omega⟩, HQ2, HSR5, HBR5⟩
      rw [show wrap64 ((k : Int) + 1) = ((k + 1 : Nat) : Int) by have := CK.out; unfold wrap64; omega]
   ·have z1 : (z.toList != (wordS (k : Int)).toList) = true := bne_iff_ne.2 hzk
    have z2 : (z.toList == (wordS (k : Int)).toList) = false := beq_eq_false_iff_ne.2 hzk
    clear hzk
    have HQ2 : Aside0 (q = kindR ws (4 - (k + 1)) (k + 1)) := ⟨by
     have : isK ws k = false := by unfold isK; rw [HZ.out, z2, Bool.false_and]
     rw [HQS.out, if_neg (by rw [this]; simp)]⟩
    go_wp2
    refine start_ (n := 14) (S := fun w' => w'.cell? ⟨b2, 0, none⟩ = some (.string z)) (ds := []) #[false, false, false, false, false, false, false, false, false, false, false, false, false, false] (by kernel_rfl) rfl rfl hw0 (fun hHeld => ?_); refine with_tabW reg46_5.tab reg46_5.bits (fun HT_ HW_ => ?_)
    have HSR0 : Aside0 (StrsAt wr.drew b2 ws) := ⟨HSR.out.later (below_drew (Below.refl _ _))⟩
    have HBR0 := Aside0.mk (below_drew HBR.out)
    generalize wr.drew = W1 at HSR0 HBR0 hHeld ⊢
    clear hw0 HSR HBR
    refine pure_ (i := 0) (N := some 14) (v := ?_) (a' := ?_) #[true, false, false, false, false, false, false, false, false, false, false, false, false, false] rfl rfl (any_of HT_.out (by kernel_rfl)) (fun _ _ _ h => h) (Or.inl ⟨by rfl, ?_⟩) ?_ ?_
    rotate_left
    ·intro w'
     go_simp
     with_reducible rfl
    rotate_left
    ·simp only [Act.put, List.setIfInBounds_toArray, List.set_cons_zero, List.set_cons_succ, i64_w, i32_w]
     rfl
    refine pure_ (i := 1) (N := some 15) (v := ?_) (a' := ?_) #[true, true, false, false, false, false, false, false, false, false, false, false, false, false] rfl rfl (any_of HT_.out (by kernel_rfl)) (fun _ _ _ h => h) (Or.inl ⟨by rfl, ?_⟩) ?_ ?_
    rotate_left
    ·intro w'
     go_simp
     with_reducible rfl
    rotate_left
    ·simp only [Act.put, List.setIfInBounds_toArray, List.set_cons_zero, List.set_cons_succ, i64_w, i32_w]
     rfl
    refine take_ (i := 2) (N := some 16) (v := ?_) (a' := ?_) #[true, true, true, false, false, false, false, false, false, false, false, false, false, false] rfl rfl (take_ofW HT_.out HW_.out (by kernel_rfl)) (fun _ _ _ h => h) (Or.inl ⟨by rfl, ?_⟩) hHeld ?_ ?_
    rotate_left
    ·rintro w' s1
     go_simp
     with_reducible rfl
    rotate_left
    ·simp only [Act.put, List.setIfInBounds_toArray, List.set_cons_zero, List.set_cons_succ, i64_w, i32_w]
     rfl
    refine pure_ (i := 3) (N := some 17) (v := ?_) (a' := ?_) #[true, true, true, true, false, false, false, false, false, false, false, false, false, false] rfl rfl (any_of HT_.out (by kernel_rfl)) (fun _ _ _ h => h) (Or.inl ⟨by rfl, ?_⟩) ?_ ?_
    rotate_left
    ·intro w'
     go_simp
     with_reducible rfl
    rotate_left
    ·simp only [Act.put, List.setIfInBounds_toArray, List.set_cons_zero, List.set_cons_succ, i64_w, i32_w]
     rfl
    refine one_ (i := 4) (N := some 18) #[true, true, true, true, true, false, false, false, false, false, false, false, false, false] rfl rfl (one_of HT_.out (by kernel_rfl)) (by decide) (fun K hK => ?_)
    refine goes_ Tryd.func62 (by kernel_rfl) rfl #[.int .i64 (k : Int)] (by rfl) rfl rfl (by (try simp only [List.map_toArray, List.map_cons, List.map_nil]); first | done | rfl) ?_
    refine (word_calls (k : Int) W1 HKW.out).mono ?_
    rintro e w4 ⟨rfl, hb4⟩
    refine ⟨_, rfl, ?_⟩
    have HSR4 := Aside0.mk (HSR0.out.later hb4)
    have HBR4 := Aside0.mk (below_step HBR0.out hb4)
    refine hK.out _ _ (pw_cell_below hb4 hHeld) (fun hHeld => ?_)
    clear hK K
    refine norm_ (a' := ?_) ?_ ?_
    rotate_left
    ·show Act.put _ (some 18) _ = _
     simp only [Act.put, List.setIfInBounds_toArray, List.set_cons_zero, List.set_cons_succ, i64_w, i32_w]
     rfl
    clear hb4
    refine pure_ (i := 5) (N := some 19) (v := ?_) (a' := ?_) #[true, true, true, true, true, true, false, false, false, false, false, false, false, false] rfl rfl (any_of HT_.out (by kernel_rfl)) (fun _ _ _ h => h) (Or.inl ⟨by rfl, ?_⟩) ?_ ?_
    rotate_left
    ·intro w'
     go_simp
     with_reducible rfl
    rotate_left
    ·simp only [Act.put, List.setIfInBounds_toArray, List.set_cons_zero, List.set_cons_succ, i64_w, i32_w]
     rfl
    refine pure_ (i := 6) (N := some 20) (v := ?_) (a' := ?_) #[true, true, true, true, true, true, true, false, false, false, false, false, false, false] rfl rfl (any_of HT_.out (by kernel_rfl)) (fun _ _ _ h => h) (Or.inl ⟨by rfl, ?_⟩) ?_ ?_
    rotate_left
    ·intro w'
     go_simp
     with_reducible rfl
    rotate_left
    ·simp only [Act.put, List.setIfInBounds_toArray, List.set_cons_zero, List.set_cons_succ, i64_w, i32_w]
     rfl
    refine pure_ (i := 7) (N := some 21) (v := undef) (a' := ?_) #[true, true, true, true, true, true, true, true, false, false, false, false, false, false] rfl rfl (any_of HT_.out (by kernel_rfl)) (fun _ _ _ h => h) (Or.inr ⟨by rfl, rfl⟩) ?_ ?_
    rotate_left
    ·simp only [Act.put, List.setIfInBounds_toArray, List.set_cons_zero, List.set_cons_succ, i64_w, i32_w]
     rfl
    refine pure_ (i := 8) (N := some 22) (v := undef) (a' := ?_) #[true, true, true, true, true, true, true, true, true, false, false, false, false, false] rfl rfl (any_of HT_.out (by kernel_rfl)) (fun _ _ _ h => h) (Or.inr ⟨by rfl, rfl⟩) ?_ ?_
    rotate_left
    ·simp only [Act.put, List.setIfInBounds_toArray, List.set_cons_zero, List.set_cons_succ, i64_w, i32_w]
     rfl
    refine pure_ (i := 9) (N := some 23) (v := undef) (a' := ?_) #[true, true, true, true, true, true, true, true, true, true, false, false, false, false] rfl rfl (any_of HT_.out (by kernel_rfl)) (fun _ _ _ h => h) (Or.inr ⟨by rfl, rfl⟩) ?_ ?_
    rotate_left
    ·simp only [Act.put, List.setIfInBounds_toArray, List.set_cons_zero, List.set_cons_succ, i64_w, i32_w]
     rfl
    refine pure_ (i := 10) (N := some 24) (v := undef) (a' := ?_) #[true, true, true, true, true, true, true, true, true, true, true, false, false, false] rfl rfl (any_of HT_.out (by kernel_rfl)) (fun _ _ _ h => h) (Or.inr ⟨by rfl, rfl⟩) ?_ ?_
    rotate_left
    ·simp only [Act.put, List.setIfInBounds_toArray, List.set_cons_zero, List.set_cons_succ, i64_w, i32_w]
     rfl
    refine pure_ (i := 11) (N := some 25) (v := undef) (a' := ?_) #[true, true, true, true, true, true, true, true, true, true, true, true, false, false] rfl rfl (any_of HT_.out (by kernel_rfl)) (fun _ _ _ h => h) (Or.inr ⟨by rfl, rfl⟩) ?_ ?_
    rotate_left
    ·simp only [Act.put, List.setIfInBounds_toArray, List.set_cons_zero, List.set_cons_succ, i64_w, i32_w]
     rfl
    refine pure_ (i := 12) (N := some 26) (v := undef) (a' := ?_) #[true, true, true, true, true, true, true, true, true, true, true, true, true, false] rfl rfl (any_of HT_.out (by kernel_rfl)) (fun _ _ _ h => h) (Or.inr ⟨by rfl, rfl⟩) ?_ ?_
    rotate_left
    ·simp only [Act.put, List.setIfInBounds_toArray, List.set_cons_zero, List.set_cons_succ, i64_w, i32_w]
     rfl
    refine pure_ (i := 13) (N := some 27) (v := ?_) (a' := ?_) #[true, true, true, true, true, true, true, true, true, true, true, true, true, true] rfl rfl (any_of HT_.out (by kernel_rfl)) (fun _ _ _ h => h) (Or.inl ⟨by rfl, ?_⟩) ?_ ?_
    rotate_left
    ·intro w'
     go_simp
     with_reducible rfl
    rotate_left
    ·simp only [Act.put, List.setIfInBounds_toArray, List.set_cons_zero, List.set_cons_succ, i64_w, i32_w]
     rfl
    refine done_ (done_of HT_.out (by kernel_rfl)) ?_
    go_wp2
    go_roundg (4 - (k + 1))
    case measure => have := HK2.out; have := CK.out; omega
    case rel =>
     have := CK.out
     refine ⟨k + 1, ?_, ⟨by omega⟩, ⟨by omega⟩, HQ2, HSR4, HBR4⟩
     rw [show wrap64 ((k : Int) + 1) = ((k + 1 : Nat) : Int) by have := CK.out; unfold wrap64; omega]
  ·have ckb : decide ((k : Int) < 4) = false := decide_eq_false (by omega)
   have ckc : decide (k < 4) = false := decide_eq_false ck
   have HKE : Aside0 (q = (⟨0, 0, 0, 0⟩, false)) := ⟨by have h := HQK.out; rw [show 4 - k = 0 by omega] at h; exact h⟩
   clear ck
   have HBX := Aside0.mk (box_later HBR.out)
   have e0 : wr.cell? ⟨w.heap.size, 0, none⟩ = some (.int .i64 0) := (blk_cell HBX.out 0).trans rfl
   have e1 : wr.cell? ⟨w.heap.size, 1, none⟩ = some (.int .i64 0) := (blk_cell HBX.out 1).trans rfl
   have e2 : wr.cell? ⟨w.heap.size, 2, none⟩ = some (.int .i64 0) := (blk_cell HBX.out 2).trans rfl
   have e3 : wr.cell? ⟨w.heap.size, 3, none⟩ = some (.int .i64 0) := (blk_cell HBX.out 3).trans rfl
   have f0 := blk_frozen HBX.out 0
   have f1 := blk_frozen HBX.out 1
   have f2 := blk_frozen HBX.out 2
   have f3 := blk_frozen HBX.out 3
   go_wp2
   obtain ⟨hw1, hw2⟩ := resSet HBX.out HBR.out (.int .i64 0) (.int .i64 0) (.int .i64 0) (.int .i64 0)
   generalize ((((wr.setCell ⟨w.heap.size, 0, none⟩ (.int .i64 0)).setCell ⟨w.heap.size, 1, none⟩ (.int .i64 0)).setCell ⟨w.heap.size, 2, none⟩ (.int .i64 0)).setCell ⟨w.heap.size, 3, none⟩ (.int .i64 0)) = W at hw1 hw2 ⊢
   have g0 : W.cell? ⟨w.heap.size, 0, none⟩ = some (.int .i64 0) := (blk_cell hw1 0).trans rfl
   have g1 : W.cell? ⟨w.heap.size, 1, none⟩ = some (.int .i64 0) := (blk_cell hw1 1).trans rfl
   have g2 : W.cell? ⟨w.heap.size, 2, none⟩ = some (.int .i64 0) := (blk_cell hw1 2).trans rfl
   have g3 : W.cell? ⟨w.heap.size, 3, none⟩ = some (.int .i64 0) := (blk_cell hw1 3).trans rfl
   refine bodyPost_ret (v := .tuple #[.agg #[.int .i64 0, .int .i64 0, .int .i64 0, .int .i64 0], .bool false]) (by simp [results, Tryd.results46, go_sem, g0, g1, g2, g3]) rfl ?_
   rw [HKE.out]
   exact ⟨rfl, hw2⟩
end Go.Proofs.YthfhnkpipdbekaaDoor.Giv
