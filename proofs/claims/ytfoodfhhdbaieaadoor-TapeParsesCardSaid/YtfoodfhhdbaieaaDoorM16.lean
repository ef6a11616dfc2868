-- CUT by a program of this session: what the claim does not use is left out
import Derived.Test.YtfoodfhhdbaieaaDoorM15
import Derived.Test.YtfoodfhhdbaieaaDoorM10
namespace Go.Proofs.YtfoodfhhdbaieaaDoor.Giv
set_option maxRecDepth 100000
set_option linter.unusedVariables false
set_option linter.unusedSimpArgs false
open Go.RowKit Go.Shelf Go.Proofs.YtfoodfhhdbaieaaDoorW.PrintWords Go.Proofs.YtfoodfhhdbaieaaDoorW.PrintLast Go.Proofs.YtfoodfhhdbaieaaDoorW.PrintMore
open Go.Proofs.YtfoodfhhdbaieaaDoor.Ka (S40 k40 z40 rd_T40 at_T40 k40_open k40_mk rd_L1 at_L1 info3 info38 info40)
theorem listB_app (l m : List Int) : listB (l ++ m) = listB l ++ listB m := by simp [listB]
theorem numsB_cons (y : Int) (l : List Int) : numsB (y :: l) = Lib.itoa y ++ listB l := by
 unfold numsB listB
 rw [List.mapIdx_cons, List.flatten_cons]
 congr 1
 congr 1
 apply List.ext_getElem
 ·simp
 ·intro i h1 h2
  simp [numB]
theorem ruleT_parts (r : S40) : ruleT r = [59, 32] ++ Lib.itoa r.f0 ++ listB r.f1 ++ listB [r.f2] ++ listB r.f3 ++ listB r.f4 := by
 unfold ruleT ruleN
 simp only [List.flatten_cons, List.flatten_nil, List.append_nil, List.cons_append, List.nil_append]
 rw [numsB_cons, listB_app, show r.f2 :: (r.f3 ++ r.f4) = [r.f2] ++ (r.f3 ++ r.f4) from rfl, listB_app, listB_app]
 simp [List.append_assoc]
theorem Neat.parts {r : S40} (h : Neat r) : (-1 ≤ r.f0 ∧ r.f0 < 10000) ∧ (numLen r.f1 ∧ r.f1.length ≤ 20) ∧ numLen [r.f2] ∧ (numLen r.f3 ∧ r.f3.length ≤ 20) ∧ (numLen r.f4 ∧ r.f4.length ≤ 20) := by
 obtain ⟨hs, hl, _, _, _⟩ := h
 unfold ruleN at hs hl
 simp only [List.flatten_cons, List.flatten_nil, List.append_nil, List.length_append, List.length_singleton] at hs hl
 refine ⟨hs _ (by simp), ⟨fun y hy => hs y (by simp [hy]), by omega⟩, fun y hy => hs y (by simp at hy; simp [hy]), ⟨fun y hy => hs y (by simp [hy]), by omega⟩, ⟨fun y hy => hs y (by simp [hy]), by omega⟩⟩
theorem conv_run {o : Oper} {a : Act} {w0 w : World} {s : ByteArray} {x : Operand} (hop : o.op = Op.convert 9 51 x) (hx : a.eval x = .string s) (hb : Below w0.heap.size w0 w) (hl : s.size ≤ 1000000000) :
  ∃ v' w', (execOp a.eval o).run Tryd.prog w = .ok (.value v') w' ∧ OwnM w0 w' v' s.data.toList ∧ Below w.heap.size w w' ∧ v'.ownBlock = some w.heap.size := by
 have hr := Lib.run_convert_string_bytes (P := Tryd.prog) w 9 51 5 s Tryd.underlying9 Tryd.underlying51 Tryd.underlying5
 have hss : s.data.toList.length = s.size := by rw [Array.length_toList]; rfl
 refine ⟨.slice (some ⟨w.heap.size, 0, none⟩) s.size (grownCap w s.size 0 5), Lib.bytesWorld w 5 s, ?_, ⟨⟨w.heap.size, _, _, _, by rw [hss], hb.size, Lib.bytesWorld_at_new w 5 s, .inl (Nat.le_refl _), ?_, grownCap_le_maxLen w s.size 0 5 (by unfold maxLen; omega), ?_, ?_⟩, ?_⟩, Lib.bytesWorld_below _ _ _, by simp [Value.ownBlock]⟩
 ·unfold execOp
  simp only [hop, Sem.run_bind, Sem.run_pure, Result.andThen_ok, hx, hr]
 ·rw [hss]; exact grownCap_ge w s.size 0 5
 ·have hge := grownCap_ge w s.size 0 5
  have hsz : s.data.size = s.size := rfl
  simp only [Lib.bytesCells, Array.size_append, Array.size_map, Array.size_replicate, hsz]
  omega
 ·rw [hss]
  simp [Lib.bytesCells, Lib.byteCells]
 ·exact below_step hb (Lib.bytesWorld_below _ _ _)
theorem exec_build2 {o : Oper} {a : Act} {W : World} {s t : Operand} {x y : Int} (hop : o.op = Op.buildSlice 38 2 #[(0, s), (1, t)]) (hs : a.eval s = .int .i64 x) (ht : a.eval t = .int .i64 y) : (execOp a.eval o).run Tryd.prog W = .ok (.value (.slice (some ⟨W.heap.size, 0, none⟩) 2 2)) (W.alloc (.cells #[.int .i64 x, .int .i64 y] 3)) := by
 obtain ⟨i, hi, hzz⟩ := Option.map_eq_some_iff.1 info3
 simp only [Prod.mk.injEq] at hzz
 obtain ⟨z1, z2, z3⟩ := hzz
 unfold execOp
 simp [hop, hs, ht, Instr.buildSlice, run_underlying Tryd.underlying38, sizeOf, typeInfo, zeroValue, hi, z1, z2, Instr.fill, newRow, Builtin.zeroCells, Value.cells, Result.andThen]
 congr 2
 apply Array.ext'
 simp [List.range, List.range.loop]
theorem rowAt_one {W : World} {g : Nat} {x : Int} (h : W.heap[g]? = some (.cells #[.int .i64 x] 3 (0, 0))) : RowAt W g [x] := ⟨_, _, h, by intro j hj; match j, hj with | 0, _ => rfl⟩
theorem rowAt_two {W : World} {g : Nat} {x y : Int} (h : W.heap[g]? = some (.cells #[.int .i64 x, .int .i64 y] 3 (0, 0))) : RowAt W g [x, y] := ⟨_, _, h, by intro j hj; match j, hj with | 0, _ => rfl | 1, _ => rfl⟩
theorem conv_ev {ops : Array Oper} {o : Oper} {a : Act} {Q : Exit → Act → World → Prop} {Kc : Act → World → Prop} {w0 w : World} {s : ByteArray} {x : Operand} (hw : Region.wanted o (yielded ops a.tmps) = true) (hop : o.op = Op.convert 9 51 x) (hx : a.eval x = .string s) (hb : Below w0.heap.size w0 w) (hl : s.size ≤ 1000000000)
  (h : ∀ v' w', OwnM w0 w' v' s.data.toList → Below w.heap.size w w' → v'.ownBlock = some w.heap.size → Kc (a.put o.dst v') w') : if Region.wanted o (yielded ops a.tmps) = true then Oper.wp Tryd.prog o a w Kc Q else Kc (a.put o.dst undef) w := by
 obtain ⟨v', w', hr, h1, h2, h3⟩ := conv_run hop hx hb hl
 exact event_step hw hr (h v' w' h1 h2 h3)
def reg9_1.T : Bool × List (List Nat × List Nat) := (true, [([], []), ([0], [0]), ([1], [1]), ([2], [2]), ([], []), ([4], [4]), ([], []), ([6], [6]), ([5, 7], [5, 7]), ([3, 8, 2], [3, 8]), ([9, 9, 0, 1, 2, 3, 4, 5, 6, 7, 8, 9], [9])])
def reg9_1.B : List Nat := [0, 1, 3, 7, 0, 16, 0, 64, 240, 511, 1023]
theorem reg9_1.tab : rtab .any (opsOf Tryd.f9 1) = reg9_1.T := by kernel_rfl
theorem reg9_1.bits : waitsOk reg9_1.T.2 reg9_1.B = true := by kernel_rfl
def reg9_7.T : Bool × List (List Nat × List Nat) := (true, [([], []), ([], []), ([1], [1]), ([0, 2], [0, 2]), ([], []), ([4], [4]), ([5], [5]), ([3, 6, 3], [3, 6]), ([], []), ([8], [8]), ([7, 9, 7], [7, 9]), ([], []), ([11], [11]), ([10, 12, 10], [10, 12]), ([13, 13, 0, 1, 2, 3, 4, 5, 6, 7, 8, 9, 10, 11, 12, 13], [0, 13])])
def reg9_7.B : List Nat := [0, 0, 2, 7, 0, 16, 48, 127, 0, 256, 1023, 0, 2048, 8191, 16383]
theorem reg9_7.tab : rtab .any (opsOf Tryd.f9 7) = reg9_7.T := by kernel_rfl
theorem reg9_7.bits : waitsOk reg9_7.T.2 reg9_7.B = true := by kernel_rfl
set_option maxHeartbeats 16000000 in
theorem refText_calls (a0 a1 a2 : Int) (A : Option Addr) (c : Nat) (l : List S40) (w : World) (hr : Kd.C k40 w A l.length l) (hs : numLen [a0, a1, a2]) (h0 : 0 ≤ a0) (hl : ∀ r ∈ l, Neat r ∧ 0 ≤ r.f0) (hn : l.length ≤ 100000) :
  Calls Tryd.prog 9 #[.agg #[.int .i64 a0, .int .i64 a1, .int .i64 a2, .slice A l.length c]] w fun e w' => e = .returned (.string ⟨(writeT a0 a1 a2 l).toArray⟩) ∧ Below w.heap.size w w' := by
 have HC := Aside0.mk hr
 have HNN := Aside0.mk h0
 have HL := Aside0.mk hl
 have HL3 := Aside0.mk hn
 have HS0 : Aside0 (a0 < 10000) := ⟨(hs a0 (by simp)).2⟩
 have HS12 : Aside0 (numLen [a1, a2]) := ⟨fun y hy => hs y (by simp at hy ⊢; omega)⟩
 have HIS : Aside0 ((itoaS a0).size ≤ 4) := ⟨by rw [itoaS, size_toArray]; exact itoa_small (by omega) HS0.out⟩
 have HWL : Aside0 (∀ i, (writeT a0 a1 a2 (l.take i)).length ≤ 10200015) := ⟨fun i => by
  have := writeT_len hs (l.take i) (fun o ho => (hl o (List.mem_of_mem_take ho)).1)
  have h2 := List.length_take_le' i l
  omega⟩
 clear hr hs h0 hl hn
 obtain ⟨w0, hw0⟩ : ∃ w0, w.alloc (.cells #[.int .i64 a0, .int .i64 a1, .int .i64 a2, .slice A l.length c] 24) = w0 := ⟨_, rfl⟩
 have hbx : w0.heap[w.heap.size]? = some (.cells #[.int .i64 a0, .int .i64 a1, .int .i64 a2, .slice A l.length c] 24 (0, 0)) := by rw [← hw0]; exact box_at _ _
 have HB0 : Aside0 (Below w.heap.size w w0) := ⟨by rw [← hw0]; exact below_alloc (Below.refl _ _) _⟩
 have HZ0 : Aside0 (w0.heap.size = w.heap.size + 1) := ⟨by rw [← hw0]; simp⟩
 have box0 : ∀ {W}, Below w0.heap.size w0 W → W.heap[w.heap.size]? = some (.cells #[.int .i64 a0, .int .i64 a1, .int .i64 a2, .slice A l.length c] 24 (0, 0)) := fun hb => (hb.block _ (Array.getElem?_eq_some_iff.1 hbx).1).trans hbx
 have HBZ := Aside0.mk (Below.refl w0.heap.size w0)
 have HW0 := Aside0.mk hw0
 clear hw0 hbx
 go_enter Tryd.func9, Tryd.ntmps9
 go_wp2
 rw [HW0.out]
 refine start_ (n := 11) (S := fun w' => w'.cell? ⟨w.heap.size, 0, none⟩ = some (.int .i64 a0) ∧ w'.cell? ⟨w.heap.size, 1, none⟩ = some (.int .i64 a1) ∧ w'.cell? ⟨w.heap.size, 2, none⟩ = some (.int .i64 a2)) (ds := [9]) #[false, false, false, false, false, false, false, false, false, false, false] (by kernel_rfl) rfl rfl ⟨(blk_cell (box0 HBZ.out) 0).trans rfl, (blk_cell (box0 HBZ.out) 1).trans rfl, (blk_cell (box0 HBZ.out) 2).trans rfl⟩ (fun hHeld => ?_); refine with_tabW reg9_1.tab reg9_1.bits (fun HT_ HW_ => ?_)
 have HBY : Aside0 (Below w0.heap.size w0 w0.drew) := ⟨below_drew (Below.refl _ _)⟩
 generalize w0.drew = W0 at HBY hHeld ⊢
 refine pure_ (i := 0) (N := some 6) (v := ?_) (a' := ?_) #[true, false, false, false, false, false, false, false, false, false, false] rfl rfl (any_of HT_.out (by kernel_rfl)) (fun _ _ _ h => h) (Or.inl ⟨by rfl, ?_⟩) ?_ ?_
 rotate_left
 ·intro w'
  go_simp
  with_reducible rfl
 rotate_left
 ·simp only [Act.put, List.setIfInBounds_toArray, List.set_cons_zero, List.set_cons_succ, i64_w, i32_w]
  rfl
 refine take_ (i := 1) (N := some 7) (v := ?_) (a' := ?_) #[true, true, false, false, false, false, false, false, false, false, false] rfl rfl (take_ofW HT_.out HW_.out (by kernel_rfl)) (fun _ _ _ h => h) (Or.inl ⟨by rfl, ?_⟩) hHeld ?_ ?_
 rotate_left
 ·rintro w' ⟨s0, s1, s2⟩
  go_simp
  with_reducible rfl
 rotate_left
 ·simp only [Act.put, List.setIfInBounds_toArray, List.set_cons_zero, List.set_cons_succ, i64_w, i32_w]
  rfl
 refine pure_ (i := 4) (N := some 10) (v := ?_) (a' := ?_) #[true, true, false, false, true, false, false, false, false, false, false] rfl rfl (any_of HT_.out (by kernel_rfl)) (fun _ _ _ h => h) (Or.inl ⟨by rfl, ?_⟩) ?_ ?_
 rotate_left
 ·intro w'
  go_simp
  with_reducible rfl
 rotate_left
 ·simp only [Act.put, List.setIfInBounds_toArray, List.set_cons_zero, List.set_cons_succ, i64_w, i32_w]
  rfl
 refine take_ (i := 5) (N := some 11) (v := ?_) (a' := ?_) #[true, true, false, false, true, true, false, false, false, false, false] rfl rfl (take_ofW HT_.out HW_.out (by kernel_rfl)) (fun _ _ _ h => h) (Or.inl ⟨by rfl, ?_⟩) hHeld ?_ ?_
 rotate_left
 ·rintro w' ⟨s0, s1, s2⟩
  go_simp
  with_reducible rfl
 rotate_left
 ·simp only [Act.put, List.setIfInBounds_toArray, List.set_cons_zero, List.set_cons_succ, i64_w, i32_w]
  rfl
 refine pure_ (i := 6) (N := some 12) (v := ?_) (a' := ?_) #[true, true, false, false, true, true, true, false, false, false, false] rfl rfl (any_of HT_.out (by kernel_rfl)) (fun _ _ _ h => h) (Or.inl ⟨by rfl, ?_⟩) ?_ ?_
 rotate_left
 ·intro w'
  go_simp
  with_reducible rfl
 rotate_left
 ·simp only [Act.put, List.setIfInBounds_toArray, List.set_cons_zero, List.set_cons_succ, i64_w, i32_w]
  rfl
 refine take_ (i := 7) (N := some 13) (v := ?_) (a' := ?_) #[true, true, false, false, true, true, true, true, false, false, false] rfl rfl (take_ofW HT_.out HW_.out (by kernel_rfl)) (fun _ _ _ h => h) (Or.inl ⟨by rfl, ?_⟩) hHeld ?_ ?_
 rotate_left
 ·rintro w' ⟨s0, s1, s2⟩
  go_simp
  with_reducible rfl
 rotate_left
 ·simp only [Act.put, List.setIfInBounds_toArray, List.set_cons_zero, List.set_cons_succ, i64_w, i32_w]
  rfl
 refine join_ (σ := Value × Nat × Value) 0 #[true, true, true, true, true, true, true, true, true, true, true] (fun s_ => [(8, .string (itoaS a0)), (9, s_.1), (14, .slice (some ⟨s_.2.1, 0, none⟩) 2 2), (15, s_.2.2), (3, s_.2.2)]) (fun s_ w' => OwnM w0 w' s_.2.2 (writeT a0 a1 a2 (l.take 0))) ?_ ?_
 rotate_left
 ·intro hCont
  refine two_ (i := 2) (j := 8) (Ni := some 8) (Nj := some 14) #[true, true, true, false, true, true, true, true, false, false, false] #[true, true, false, false, true, true, true, true, true, false, false] rfl rfl rfl rfl (two_of HT_.out (by kernel_rfl)) (by decide) (by decide) (fun K hK => ?_) (fun K hK => ?_)
  ·skip
   refine goes_ Tryd.func22 (by kernel_rfl) rfl #[.int .i64 a0] (by rfl) rfl rfl (by (try simp only [List.map_toArray, List.map_cons, List.map_nil]); first | done | rfl) ?_
   refine (dec_calls a0 W0 HNN.out HS0.out).mono ?_
   rintro e W1 ⟨rfl, hbW1⟩
   refine ⟨_, rfl, ?_⟩
   have HBW1 : Aside0 (Below w0.heap.size w0 W1) := ⟨below_step HBY.out hbW1⟩
   have HCW1 := Aside0.mk hbW1
   clear hbW1
   refine hK.out _ _ ⟨(blk_cell (box0 HBW1.out) 0).trans rfl, (blk_cell (box0 HBW1.out) 1).trans rfl, (blk_cell (box0 HBW1.out) 2).trans rfl⟩ (fun hHeld => ?_)
   clear hK K
   refine norm_ (a' := ?_) ?_ ?_
   rotate_left
   ·show Act.put _ (some 8) _ = _
    simp only [Act.put, List.setIfInBounds_toArray, List.set_cons_zero, List.set_cons_succ, i64_w, i32_w]
    rfl
   refine two_ (i := 3) (j := 8) (Ni := some 9) (Nj := some 14) #[true, true, true, true, true, true, true, true, false, false, false] #[true, true, true, false, true, true, true, true, true, false, false] rfl rfl rfl rfl (two_of HT_.out (by kernel_rfl)) (by decide) (by decide) (fun K hK => ?_) (fun K hK => ?_)
   ·skip
    refine conv_ev (s := itoaS a0) (w0 := w0) (w := W1) (x := .tmp 8) (by rfl) rfl rfl HBW1.out (by have := HIS.out; omega) ?_
    intro v3 W2 hO3 hb3 hg3
    have HO3 := Aside0.mk hO3
    have HBW2 := Aside0.mk hO3.below
    have HCW2 := Aside0.mk hb3
    have HG3 := Aside0.mk hg3
    clear hO3 hb3 hg3
    refine hK.out _ _ ⟨(blk_cell (box0 HBW2.out) 0).trans rfl, (blk_cell (box0 HBW2.out) 1).trans rfl, (blk_cell (box0 HBW2.out) 2).trans rfl⟩ (fun hHeld => ?_)
    clear hK K
    refine norm_ (a' := ?_) ?_ ?_
    rotate_left
    ·show Act.put _ (some 9) _ = _
     simp only [Act.put, List.setIfInBounds_toArray, List.set_cons_zero, List.set_cons_succ, i64_w, i32_w]
     rfl
    refine one_ (i := 8) (N := some 14) #[true, true, true, true, true, true, true, true, true, false, false] rfl rfl (one_of HT_.out (by kernel_rfl)) (by decide) (fun K hK => ?_)
    obtain ⟨W3, hW3⟩ : ∃ W, W2.alloc (.cells #[.int .i64 a1, .int .i64 a2] 3) = W := ⟨_, rfl⟩
    have HCW3 : Aside0 (Below W2.heap.size W2 W3) := ⟨by rw [← hW3]; exact below_alloc (Below.refl _ _) _⟩
    have HBW3 : Aside0 (Below w0.heap.size w0 W3) := ⟨below_step HBW2.out HCW3.out⟩
    have HR2 : Aside0 (RowAt W3 W2.heap.size [a1, a2]) := ⟨rowAt_two (by rw [← hW3]; exact box_at _ _)⟩
    refine event_step (v := .slice (some ⟨W2.heap.size, 0, none⟩) 2 2) (w1 := W3) (by rfl) (by rw [← hW3]; exact exec_build2 rfl rfl rfl) ?_
    refine hK.out _ _ ⟨(blk_cell (box0 HBW3.out) 0).trans rfl, (blk_cell (box0 HBW3.out) 1).trans rfl, (blk_cell (box0 HBW3.out) 2).trans rfl⟩ (fun hHeld => ?_)
    clear hK K hW3
    refine norm_ (a' := ?_) ?_ ?_
    rotate_left
    ·show Act.put _ (some 14) _ = _
     simp only [Act.put, List.setIfInBounds_toArray, List.set_cons_zero, List.set_cons_succ, i64_w, i32_w]
     rfl
    refine last_ (i := 9) (N := some 15) #[true, true, true, true, true, true, true, true, true, true, false] rfl rfl (one_of HT_.out (by kernel_rfl)) (by decide) (fun K hK => ?_)
    refine goes_ Tryd.func21 (by kernel_rfl) rfl #[v3, .slice (some ⟨W2.heap.size, 0, none⟩) 2 2] (by rfl) rfl rfl (by (try simp only [List.map_toArray, List.map_cons, List.map_nil]); first | done | rfl) ?_
    refine (listed_calls w0 W3 v3 (itoaS a0).data.toList (some ⟨W2.heap.size, 0, none⟩) 2 [a1, a2] (HO3.out.later HCW3.out) (.inr ⟨_, rfl, HR2.out, (by rw [HG3.out]; intro e; have := HCW2.out.size; injection e with e; have h2 := HO3.out.lt _ HG3.out.symm; omega)⟩) HS12.out (by simp) (by have := HIS.out; rw [size_list] at this; omega)).mono ?_
    rintro e w5 ⟨v5, rfl, hO5, _⟩
    refine ⟨_, rfl, ?_⟩
    have HO5 : Aside0 (OwnM w0 w5 v5 (writeT a0 a1 a2 (l.take 0))) := ⟨by rw [List.take_zero, show writeT a0 a1 a2 [] = (itoaS a0).data.toList ++ listB [a1, a2] by simp [writeT, numsB_cons, itoaS]]; exact hO5⟩
    clear hO5
    refine hK.out _ _ ?_
    clear hK K
    refine norm_ (a' := ?_) ?_ ?_
    rotate_left
    ·show Act.put _ (some 15) _ = _
     simp only [Act.put, List.setIfInBounds_toArray, List.set_cons_zero, List.set_cons_succ, i64_w, i32_w]
     rfl
    refine pure_ (i := 10) (N := some 3) (v := ?_) (a' := ?_) #[true, true, true, true, true, true, true, true, true, true, true] rfl rfl (any_of HT_.out (by kernel_rfl)) (fun _ _ _ h => h) (Or.inl ⟨by rfl, ?_⟩) ?_ ?_
    rotate_left
    ·intro w'
     go_simp
     with_reducible rfl
    rotate_left
    ·simp only [Act.put, List.setIfInBounds_toArray, List.set_cons_zero, List.set_cons_succ, i64_w, i32_w]
     rfl
    exact norm_ (by simp only [putAll, Act.put, List.setIfInBounds_toArray, List.set_cons_zero, List.set_cons_succ]) (hCont (v3, W2.heap.size, v5) _ HO5.out)
   ·skip
    obtain ⟨W2, hW2⟩ : ∃ W, W1.alloc (.cells #[.int .i64 a1, .int .i64 a2] 3) = W := ⟨_, rfl⟩
    have HCW2 : Aside0 (Below W1.heap.size W1 W2) := ⟨by rw [← hW2]; exact below_alloc (Below.refl _ _) _⟩
    have HBW2 : Aside0 (Below w0.heap.size w0 W2) := ⟨below_step HBW1.out HCW2.out⟩
    have HR2 : Aside0 (RowAt W2 W1.heap.size [a1, a2]) := ⟨rowAt_two (by rw [← hW2]; exact box_at _ _)⟩
    refine event_step (v := .slice (some ⟨W1.heap.size, 0, none⟩) 2 2) (w1 := W2) (by rfl) (by rw [← hW2]; exact exec_build2 rfl rfl rfl) ?_
    refine hK.out _ _ ⟨(blk_cell (box0 HBW2.out) 0).trans rfl, (blk_cell (box0 HBW2.out) 1).trans rfl, (blk_cell (box0 HBW2.out) 2).trans rfl⟩ (fun hHeld => ?_)
    clear hK K hW2
    refine norm_ (a' := ?_) ?_ ?_
    rotate_left
    ·show Act.put _ (some 14) _ = _
     simp only [Act.put, List.setIfInBounds_toArray, List.set_cons_zero, List.set_cons_succ, i64_w, i32_w]
     rfl
    refine one_ (i := 3) (N := some 9) #[true, true, true, true, true, true, true, true, true, false, false] rfl rfl (one_of HT_.out (by kernel_rfl)) (by decide) (fun K hK => ?_)
    refine conv_ev (s := itoaS a0) (w0 := w0) (w := W2) (x := .tmp 8) (by rfl) rfl rfl HBW2.out (by have := HIS.out; omega) ?_
    intro v3 W3 hO3 hb3 hg3
    have HO3 := Aside0.mk hO3
    have HBW3 := Aside0.mk hO3.below
    have HCW3 := Aside0.mk hb3
    have HG3 := Aside0.mk hg3
    clear hO3 hb3 hg3
    refine hK.out _ _ ⟨(blk_cell (box0 HBW3.out) 0).trans rfl, (blk_cell (box0 HBW3.out) 1).trans rfl, (blk_cell (box0 HBW3.out) 2).trans rfl⟩ (fun hHeld => ?_)
    clear hK K
    refine norm_ (a' := ?_) ?_ ?_
    rotate_left
    ·show Act.put _ (some 9) _ = _
     simp only [Act.put, List.setIfInBounds_toArray, List.set_cons_zero, List.set_cons_succ, i64_w, i32_w]
     rfl
    refine last_ (i := 9) (N := some 15) #[true, true, true, true, true, true, true, true, true, true, false] rfl rfl (one_of HT_.out (by kernel_rfl)) (by decide) (fun K hK => ?_)
    refine goes_ Tryd.func21 (by kernel_rfl) rfl #[v3, .slice (some ⟨W1.heap.size, 0, none⟩) 2 2] (by rfl) rfl rfl (by (try simp only [List.map_toArray, List.map_cons, List.map_nil]); first | done | rfl) ?_
    refine (listed_calls w0 W3 v3 (itoaS a0).data.toList (some ⟨W1.heap.size, 0, none⟩) 2 [a1, a2] HO3.out (.inr ⟨_, rfl, (HR2.out.below HCW3.out), (by rw [HG3.out]; intro e; injection e with e; have := HR2.out.lt; omega)⟩) HS12.out (by simp) (by have := HIS.out; rw [size_list] at this; omega)).mono ?_
    rintro e w5 ⟨v5, rfl, hO5, _⟩
    refine ⟨_, rfl, ?_⟩
    have HO5 : Aside0 (OwnM w0 w5 v5 (writeT a0 a1 a2 (l.take 0))) := ⟨by rw [List.take_zero, show writeT a0 a1 a2 [] = (itoaS a0).data.toList ++ listB [a1, a2] by simp [writeT, numsB_cons, itoaS]]; exact hO5⟩
    clear hO5
    refine hK.out _ _ ?_
    clear hK K
    refine norm_ (a' := ?_) ?_ ?_
    rotate_left
    ·show Act.put _ (some 15) _ = _
     simp only [Act.put, List.setIfInBounds_toArray, List.set_cons_zero, List.set_cons_succ, i64_w, i32_w]
     rfl
    refine pure_ (i := 10) (N := some 3) (v := ?_) (a' := ?_) #[true, true, true, true, true, true, true, true, true, true, true] rfl rfl (any_of HT_.out (by kernel_rfl)) (fun _ _ _ h => h) (Or.inl ⟨by rfl, ?_⟩) ?_ ?_
    rotate_left
    ·intro w'
     go_simp
     with_reducible rfl
    rotate_left
    ·simp only [Act.put, List.setIfInBounds_toArray, List.set_cons_zero, List.set_cons_succ, i64_w, i32_w]
     rfl
    exact norm_ (by simp only [putAll, Act.put, List.setIfInBounds_toArray, List.set_cons_zero, List.set_cons_succ]) (hCont (v3, W1.heap.size, v5) _ HO5.out)
  ·skip
   obtain ⟨W1, hW1⟩ : ∃ W, W0.alloc (.cells #[.int .i64 a1, .int .i64 a2] 3) = W := ⟨_, rfl⟩
   have HCW1 : Aside0 (Below W0.heap.size W0 W1) := ⟨by rw [← hW1]; exact below_alloc (Below.refl _ _) _⟩
   have HBW1 : Aside0 (Below w0.heap.size w0 W1) := ⟨below_step HBY.out HCW1.out⟩
   have HR2 : Aside0 (RowAt W1 W0.heap.size [a1, a2]) := ⟨rowAt_two (by rw [← hW1]; exact box_at _ _)⟩
   refine event_step (v := .slice (some ⟨W0.heap.size, 0, none⟩) 2 2) (w1 := W1) (by rfl) (by rw [← hW1]; exact exec_build2 rfl rfl rfl) ?_
   refine hK.out _ _ ⟨(blk_cell (box0 HBW1.out) 0).trans rfl, (blk_cell (box0 HBW1.out) 1).trans rfl, (blk_cell (box0 HBW1.out) 2).trans rfl⟩ (fun hHeld => ?_)
   clear hK K hW1
   refine norm_ (a' := ?_) ?_ ?_
   rotate_left
   ·show Act.put _ (some 14) _ = _
    simp only [Act.put, List.setIfInBounds_toArray, List.set_cons_zero, List.set_cons_succ, i64_w, i32_w]
    rfl
   refine one_ (i := 2) (N := some 8) #[true, true, true, false, true, true, true, true, true, false, false] rfl rfl (one_of HT_.out (by kernel_rfl)) (by decide) (fun K hK => ?_)
   refine goes_ Tryd.func22 (by kernel_rfl) rfl #[.int .i64 a0] (by rfl) rfl rfl (by (try simp only [List.map_toArray, List.map_cons, List.map_nil]); first | done | rfl) ?_
   refine (dec_calls a0 W1 HNN.out HS0.out).mono ?_
   rintro e W2 ⟨rfl, hbW2⟩
   refine ⟨_, rfl, ?_⟩
   have HBW2 : Aside0 (Below w0.heap.size w0 W2) := ⟨below_step HBW1.out hbW2⟩
   have HCW2 := Aside0.mk hbW2
   clear hbW2
   refine hK.out _ _ ⟨(blk_cell (box0 HBW2.out) 0).trans rfl, (blk_cell (box0 HBW2.out) 1).trans rfl, (blk_cell (box0 HBW2.out) 2).trans rfl⟩ (fun hHeld => ?_)
   clear hK K
   refine norm_ (a' := ?_) ?_ ?_
   rotate_left
   ·show Act.put _ (some 8) _ = _
    simp only [Act.put, List.setIfInBounds_toArray, List.set_cons_zero, List.set_cons_succ, i64_w, i32_w]
    rfl
   refine one_ (i := 3) (N := some 9) #[true, true, true, true, true, true, true, true, true, false, false] rfl rfl (one_of HT_.out (by kernel_rfl)) (by decide) (fun K hK => ?_)
   refine conv_ev (s := itoaS a0) (w0 := w0) (w := W2) (x := .tmp 8) (by rfl) rfl rfl HBW2.out (by have := HIS.out; omega) ?_
   intro v3 W3 hO3 hb3 hg3
   have HO3 := Aside0.mk hO3
   have HBW3 := Aside0.mk hO3.below
   have HCW3 := Aside0.mk hb3
   have HG3 := Aside0.mk hg3
   clear hO3 hb3 hg3
   refine hK.out _ _ ⟨(blk_cell (box0 HBW3.out) 0).trans rfl, (blk_cell (box0 HBW3.out) 1).trans rfl, (blk_cell (box0 HBW3.out) 2).trans rfl⟩ (fun hHeld => ?_)
   clear hK K
   refine norm_ (a' := ?_) ?_ ?_
   rotate_left
   ·show Act.put _ (some 9) _ = _
    simp only [Act.put, List.setIfInBounds_toArray, List.set_cons_zero, List.set_cons_succ, i64_w, i32_w]
    rfl
   refine last_ (i := 9) (N := some 15) #[true, true, true, true, true, true, true, true, true, true, false] rfl rfl (one_of HT_.out (by kernel_rfl)) (by decide) (fun K hK => ?_)
   refine goes_ Tryd.func21 (by kernel_rfl) rfl #[v3, .slice (some ⟨W0.heap.size, 0, none⟩) 2 2] (by rfl) rfl rfl (by (try simp only [List.map_toArray, List.map_cons, List.map_nil]); first | done | rfl) ?_
   refine (listed_calls w0 W3 v3 (itoaS a0).data.toList (some ⟨W0.heap.size, 0, none⟩) 2 [a1, a2] HO3.out (.inr ⟨_, rfl, ((HR2.out.below HCW2.out).below HCW3.out), (by rw [HG3.out]; intro e; injection e with e; have := HR2.out.lt; have := HCW2.out.size; omega)⟩) HS12.out (by simp) (by have := HIS.out; rw [size_list] at this; omega)).mono ?_
   rintro e w5 ⟨v5, rfl, hO5, _⟩
   refine ⟨_, rfl, ?_⟩
   have HO5 : Aside0 (OwnM w0 w5 v5 (writeT a0 a1 a2 (l.take 0))) := ⟨by rw [List.take_zero, show writeT a0 a1 a2 [] = (itoaS a0).data.toList ++ listB [a1, a2] by simp [writeT, numsB_cons, itoaS]]; exact hO5⟩
   clear hO5
   refine hK.out _ _ ?_
   clear hK K
   refine norm_ (a' := ?_) ?_ ?_
   rotate_left
   ·show Act.put _ (some 15) _ = _
    simp only [Act.put, List.setIfInBounds_toArray, List.set_cons_zero, List.set_cons_succ, i64_w, i32_w]
    rfl
   refine pure_ (i := 10) (N := some 3) (v := ?_) (a' := ?_) #[true, true, true, true, true, true, true, true, true, true, true] rfl rfl (any_of HT_.out (by kernel_rfl)) (fun _ _ _ h => h) (Or.inl ⟨by rfl, ?_⟩) ?_ ?_
   rotate_left
   ·intro w'
    go_simp
    with_reducible rfl
   rotate_left
   ·simp only [Act.put, List.setIfInBounds_toArray, List.set_cons_zero, List.set_cons_succ, i64_w, i32_w]
    rfl
   exact norm_ (by simp only [putAll, Act.put, List.setIfInBounds_toArray, List.set_cons_zero, List.set_cons_succ]) (hCont (v3, W0.heap.size, v5) _ HO5.out)
 rintro ⟨v3, g3, v5⟩ w5 hO5
 refine norm_ (a' := ?_) ?_ ?_
 rotate_left
 ·simp only [putAll, Act.put, List.setIfInBounds_toArray, List.set_cons_zero, List.set_cons_succ]
  rfl
 have HO5 : Aside0 (OwnM w0 w5 v5 (writeT a0 a1 a2 (l.take 0))) := ⟨hO5⟩
 clear hO5
 refine done_ (done_of HT_.out (by kernel_rfl)) ?_
 go_wp2
 go_loopg [3, 4] l.length (fun gg s3 s4 W => ∃ i : Nat, s4 = .int .i64 (i : Int) ∧ Aside0 (i ≤ l.length) ∧ Aside0 (l.length - i = gg) ∧ Aside0 (OwnM w0 W s3 (writeT a0 a1 a2 (l.take i))))
 case atStart => exact ⟨0, rfl, ⟨by omega⟩, ⟨by omega⟩, HO5⟩
 case round =>
  clear HO5
  obtain ⟨i, rfl, HI, HG2, HAT⟩ := hrel
  have hz3 : wr.cell? ⟨w.heap.size, 3, none⟩ = some (.slice A l.length c) := (blk_cell (box0 HAT.out.below) 3).trans rfl
  by_cases cl : i < l.length
  ·have clb : decide ((i : Int) < (l.length : Int)) = true := decide_eq_true (by omega)
   have clb2 : decide (i < l.length) = true := decide_eq_true cl
   obtain ⟨ad, A1, c1, A3, c3, A4, c4, e1, h0, h1, h2, h3, h4, k1, hC1, k3, hC3, k4, hC4⟩ := at_T40 HC.out (i : Int) (by omega) (by omega)
   have HBW : Aside0 (Below w.heap.size w wr) := ⟨below_step HB0.out HAT.out.below⟩
   replace h0 := pw_cell_below HBW.out h0
   replace h1 := pw_cell_below HBW.out h1
   replace h2 := pw_cell_below HBW.out h2
   replace h3 := pw_cell_below HBW.out h3
   replace h4 := pw_cell_below HBW.out h4
   rw [rd_T40_at l i cl] at h0 h1 h2 h3 h4 k1 hC1 k3 hC3 k4 hC4
   subst e1
   have p1 : (0 ≤ (i : Int)) = True := eq_true (by omega)
   have q1 : ((i : Int) < (l.length : Int)) = True := eq_true (by omega)
   rw [Int.toNat_natCast] at h0 h1 h2 h3 h4
   have HM := Aside0.mk (List.getElem_mem cl)
   have HNX := Aside0.mk (writeT_next (a0 := a0) (a1 := a1) (a2 := a2) cl)
   obtain ⟨r, hr⟩ : ∃ r, r = l[i] := ⟨_, rfl⟩
   rw [← hr] at h0 h1 h2 h3 h4 k1 hC1 k3 hC3 k4 hC4 HNX HM
   clear hr
   have HR := Aside0.mk (HL.out r HM.out).1.parts
   have HRN := Aside0.mk (HL.out r HM.out).2
   have CL := Aside0.mk cl
   clear cl
   have HC1 := Aside0.mk (Kd.C_below hC1 HB0.out)
   have HC3 := Aside0.mk (Kd.C_below hC3 HB0.out)
   have HC4 := Aside0.mk (Kd.C_below hC4 HB0.out)
   clear hC1 hC3 hC4 k1 k3 k4
   obtain ⟨X, hX⟩ : ∃ X, X = writeT a0 a1 a2 (l.take i) := ⟨_, rfl⟩
   have HXL : Aside0 (X.length ≤ 10200015) := ⟨by rw [hX]; exact HWL.out i⟩
   rw [← hX] at HAT HNX
   clear hX
   have HT : Aside0 (((⟨#[59, 32]⟩ : ByteArray) ++ itoaS r.f0).data.toList = [59, 32] ++ Lib.itoa r.f0) := ⟨by simp [itoaS, ByteArray.data_append]⟩
   have HIL : Aside0 ((itoaS r.f0).size ≤ 4) := ⟨by rw [itoaS, size_toArray]; exact itoa_small HR.out.1.1 HR.out.1.2⟩
   have z1 : (9223372036854775807 < 2 + (itoaS r.f0).size) = False := eq_false (by have := HIL.out; omega)
   have HSZ : Aside0 (((⟨#[59, 32]⟩ : ByteArray) ++ itoaS r.f0).size ≤ 6) := ⟨by rw [size_list, HT.out]; have := itoa_small HR.out.1.1 HR.out.1.2; simp only [List.length_append, List.length_cons, List.length_nil]; omega⟩
   go_wp2_with (first
    | (go_at_call 22; refine (dec_calls r.f0 _ HRN.out HR.out.1.2).mono ?_; rintro e w2 ⟨rfl, hb⟩; have HB2 := Aside0.mk hb; have HBX2 := Aside0.mk ((hb.block _ (Array.getElem?_eq_some_iff.1 (box_at wr (.cells #[.int .i64 r.f0, .slice A1 r.f1.length c1, .int .i64 r.f2, .slice A3 r.f3.length c3, .slice A4 r.f4.length c4] 40))).1).trans (box_at wr _)); clear hb)
    | ((with_reducible refine gate_dst (N := 33) rfl ?_); go_must (refine appM_event (w0 := w0) (l := X) (s := (⟨#[59, 32]⟩ : ByteArray) ++ itoaS r.f0) rfl (.tmp 28) (.tmp 32) rfl rfl rfl ((HAT.out.later (below_alloc (Below.refl _ _) _)).later HB2.out) (by have := HXL.out; have := HSZ.out; omega) ?_; intro v3 w3 hO3 hM3; have HO3 := Aside0.mk hO3; have HM3 := Aside0.mk hM3; clear hO3 hM3)))
   have HBX3 : Aside0 (w3.heap[wr.heap.size]? = some (.cells #[.int .i64 r.f0, .slice A1 r.f1.length c1, .int .i64 r.f2, .slice A3 r.f3.length c3, .slice A4 r.f4.length c4] 40 (0, 0))) := ⟨(HM3.out.keep _ (Array.getElem?_eq_some_iff.1 HBX2.out).1 (fun e => by have := HAT.out.lt _ e; omega)).trans HBX2.out⟩
   have HNE : Aside0 (some wr.heap.size ≠ v3.ownBlock) := ⟨HM3.out.own _ (Array.getElem?_eq_some_iff.1 HBX2.out).1 (fun e => by have := HAT.out.lt _ e; omega)⟩
   have HO4 : Aside0 (OwnM w0 w3 v3 (X ++ ([59, 32] ++ Lib.itoa r.f0))) := ⟨by rw [← HT.out]; exact HO3.out⟩
   have HYL : Aside0 ((X ++ ([59, 32] ++ Lib.itoa r.f0)).length ≤ 10200025) := ⟨by rw [List.length_append]; have := HXL.out; have := HSZ.out; rw [size_list, HT.out] at this; omega⟩
   have HRT : Aside0 (X ++ ruleT r = X ++ ([59, 32] ++ Lib.itoa r.f0) ++ listB r.f1 ++ listB [r.f2] ++ listB r.f3 ++ listB r.f4) := ⟨by rw [ruleT_parts]; simp [List.append_assoc]⟩
   obtain ⟨Y, hY⟩ : ∃ Y, Y = X ++ ([59, 32] ++ Lib.itoa r.f0) := ⟨_, rfl⟩
   rw [← hY] at HO4 HYL HRT
   have HLB : Aside0 ((listB r.f1).length ≤ 100 ∧ (listB [r.f2]).length ≤ 5 ∧ (listB r.f3).length ≤ 100) := ⟨by have h := HR.out; have q1 := listB_len _ h.2.1.1; have q2 := listB_len _ h.2.2.1; have q3 := listB_len _ h.2.2.2.1.1; simp only [List.length_singleton] at q2; omega⟩
   clear hY HO3 HM3 HB2 HBX2 h0 h1 h2 h3 h4
   generalize wr.heap.size = gb at HBX3 HNE ⊢
   have o0 : w3.cell? ⟨gb, 1, none⟩ = some (.slice A1 r.f1.length c1) := (blk_cell HBX3.out 1).trans rfl
   have o1 : w3.cell? ⟨gb, 2, none⟩ = some (.int .i64 r.f2) := (blk_cell HBX3.out 2).trans rfl
   have o2 : w3.cell? ⟨gb, 3, none⟩ = some (.slice A3 r.f3.length c3) := (blk_cell HBX3.out 3).trans rfl
   have o3 : w3.cell? ⟨gb, 4, none⟩ = some (.slice A4 r.f4.length c4) := (blk_cell HBX3.out 4).trans rfl
   refine start_ (n := 15) (S := fun w' => w'.cell? ⟨gb, 1, none⟩ = some (.slice A1 r.f1.length c1) ∧ w'.cell? ⟨gb, 2, none⟩ = some (.int .i64 r.f2) ∧ w'.cell? ⟨gb, 3, none⟩ = some (.slice A3 r.f3.length c3) ∧ w'.cell? ⟨gb, 4, none⟩ = some (.slice A4 r.f4.length c4)) (ds := [13]) #[false, false, false, false, false, false, false, false, false, false, false, false, false, false, false] (by kernel_rfl) rfl rfl ⟨o0, o1, o2, o3⟩ (fun hHeld => ?_); refine with_tabW reg9_7.tab reg9_7.bits (fun HT_ HW_ => ?_)
   have HO0 := Aside0.mk (HO4.out.later (below_drew (Below.refl _ _)))
   have HBX0 : Aside0 (w3.drew.heap[gb]? = some (.cells #[.int .i64 r.f0, .slice A1 r.f1.length c1, .int .i64 r.f2, .slice A3 r.f3.length c3, .slice A4 r.f4.length c4] 40 (0, 0))) := ⟨HBX3.out⟩
   generalize w3.drew = W0 at HO0 HBX0 hHeld ⊢
   clear HO4 HBX3 o0 o1 o2 o3
   refine pure_ (i := 0) (N := some 34) (v := ?_) (a' := ?_) #[true, false, false, false, false, false, false, false, false, false, false, false, false, false, false] rfl rfl (any_of HT_.out (by kernel_rfl)) (fun _ _ _ h => h) (Or.inl ⟨by rfl, ?_⟩) ?_ ?_
   rotate_left
   ·intro w'
    go_simp
    with_reducible rfl
   rotate_left
   ·simp only [Act.put, List.setIfInBounds_toArray, List.set_cons_zero, List.set_cons_succ, i64_w, i32_w]
    rfl
   refine pure_ (i := 1) (N := some 35) (v := ?_) (a' := ?_) #[true, true, false, false, false, false, false, false, false, false, false, false, false, false, false] rfl rfl (any_of HT_.out (by kernel_rfl)) (fun _ _ _ h => h) (Or.inl ⟨by rfl, ?_⟩) ?_ ?_
   rotate_left
   ·intro w'
    go_simp
    with_reducible rfl
   rotate_left
   ·simp only [Act.put, List.setIfInBounds_toArray, List.set_cons_zero, List.set_cons_succ, i64_w, i32_w]
    rfl
   refine take_ (i := 2) (N := some 36) (v := ?_) (a' := ?_) #[true, true, true, false, false, false, false, false, false, false, false, false, false, false, false] rfl rfl (take_ofW HT_.out HW_.out (by kernel_rfl)) (fun _ _ _ h => h) (Or.inl ⟨by rfl, ?_⟩) hHeld ?_ ?_
   rotate_left
   ·rintro w' ⟨s0, s1, s2, s3⟩
    go_simp
    with_reducible rfl
   rotate_left
   ·simp only [Act.put, List.setIfInBounds_toArray, List.set_cons_zero, List.set_cons_succ, i64_w, i32_w]
    rfl
   refine pure_ (i := 4) (N := some 38) (v := ?_) (a' := ?_) #[true, true, true, false, true, false, false, false, false, false, false, false, false, false, false] rfl rfl (any_of HT_.out (by kernel_rfl)) (fun _ _ _ h => h) (Or.inl ⟨by rfl, ?_⟩) ?_ ?_
   rotate_left
   ·intro w'
    go_simp
    with_reducible rfl
   rotate_left
   ·simp only [Act.put, List.setIfInBounds_toArray, List.set_cons_zero, List.set_cons_succ, i64_w, i32_w]
    rfl
   refine take_ (i := 5) (N := some 39) (v := ?_) (a' := ?_) #[true, true, true, false, true, true, false, false, false, false, false, false, false, false, false] rfl rfl (take_ofW HT_.out HW_.out (by kernel_rfl)) (fun _ _ _ h => h) (Or.inl ⟨by rfl, ?_⟩) hHeld ?_ ?_
   rotate_left
   ·rintro w' ⟨s0, s1, s2, s3⟩
    go_simp
    with_reducible rfl
   rotate_left
   ·simp only [Act.put, List.setIfInBounds_toArray, List.set_cons_zero, List.set_cons_succ, i64_w, i32_w]
    rfl
   refine pure_ (i := 8) (N := some 42) (v := ?_) (a' := ?_) #[true, true, true, false, true, true, false, false, true, false, false, false, false, false, false] rfl rfl (any_of HT_.out (by kernel_rfl)) (fun _ _ _ h => h) (Or.inl ⟨by rfl, ?_⟩) ?_ ?_
   rotate_left
   ·intro w'
    go_simp
    with_reducible rfl
   rotate_left
   ·simp only [Act.put, List.setIfInBounds_toArray, List.set_cons_zero, List.set_cons_succ, i64_w, i32_w]
    rfl
   refine take_ (i := 9) (N := some 43) (v := ?_) (a' := ?_) #[true, true, true, false, true, true, false, false, true, true, false, false, false, false, false] rfl rfl (take_ofW HT_.out HW_.out (by kernel_rfl)) (fun _ _ _ h => h) (Or.inl ⟨by rfl, ?_⟩) hHeld ?_ ?_
   rotate_left
   ·rintro w' ⟨s0, s1, s2, s3⟩
    go_simp
    with_reducible rfl
   rotate_left
   ·simp only [Act.put, List.setIfInBounds_toArray, List.set_cons_zero, List.set_cons_succ, i64_w, i32_w]
    rfl
   refine pure_ (i := 11) (N := some 45) (v := ?_) (a' := ?_) #[true, true, true, false, true, true, false, false, true, true, false, true, false, false, false] rfl rfl (any_of HT_.out (by kernel_rfl)) (fun _ _ _ h => h) (Or.inl ⟨by rfl, ?_⟩) ?_ ?_
   rotate_left
   ·intro w'
    go_simp
    with_reducible rfl
   rotate_left
   ·simp only [Act.put, List.setIfInBounds_toArray, List.set_cons_zero, List.set_cons_succ, i64_w, i32_w]
    rfl
   refine take_ (i := 12) (N := some 46) (v := ?_) (a' := ?_) #[true, true, true, false, true, true, false, false, true, true, false, true, true, false, false] rfl rfl (take_ofW HT_.out HW_.out (by kernel_rfl)) (fun _ _ _ h => h) (Or.inl ⟨by rfl, ?_⟩) hHeld ?_ ?_
   rotate_left
   ·rintro w' ⟨s0, s1, s2, s3⟩
    go_simp
    with_reducible rfl
   rotate_left
   ·simp only [Act.put, List.setIfInBounds_toArray, List.set_cons_zero, List.set_cons_succ, i64_w, i32_w]
    rfl
   refine join_ (σ := Value × Nat × Value × Value × Value) 0 #[true, true, true, true, true, true, true, true, true, true, true, true, true, true, true] (fun s_ => [(37, s_.1), (40, .slice (some ⟨s_.2.1, 0, none⟩) 1 1), (41, s_.2.2.1), (44, s_.2.2.2.1), (47, s_.2.2.2.2), (3, s_.2.2.2.2)]) (fun s_ w' => OwnM w0 w' s_.2.2.2.2 (X ++ ruleT r)) ?_ ?_
   rotate_left
   ·intro hCont
    have HNE0 := HNE
    refine two_ (i := 3) (j := 6) (Ni := some 37) (Nj := some 40) #[true, true, true, true, true, true, false, false, true, true, false, true, true, false, false] #[true, true, true, false, true, true, true, false, true, true, false, true, true, false, false] rfl rfl rfl rfl (two_of HT_.out (by kernel_rfl)) (by decide) (by decide) (fun K hK => ?_) (fun K hK => ?_)
    ·skip
     refine goes_ Tryd.func21 (by kernel_rfl) rfl #[v3, .slice A1 r.f1.length c1] (by rfl) rfl rfl (by (try simp only [List.map_toArray, List.map_cons, List.map_nil]); first | done | rfl) ?_
     refine (listed_calls w0 W0 v3 (Y) A1 c1 r.f1 HO0.out (.inl HC1.out) HR.out.2.1.1 (by have := HR.out.2.1.2; omega) (by have := HYL.out; have := HLB.out; (try simp only [List.length_append]); omega)).mono ?_
     rintro e W1 ⟨v4, rfl, hO, hM⟩
     refine ⟨_, rfl, ?_⟩
     have HO1 := Aside0.mk hO
     have HBX1 : Aside0 (W1.heap[gb]? = some (.cells #[.int .i64 r.f0, .slice A1 r.f1.length c1, .int .i64 r.f2, .slice A3 r.f3.length c3, .slice A4 r.f4.length c4] 40 (0, 0))) := ⟨(hM.keep _ (Array.getElem?_eq_some_iff.1 HBX0.out).1 HNE0.out).trans HBX0.out⟩
     have HNE1 : Aside0 (some gb ≠ v4.ownBlock) := ⟨hM.own _ (Array.getElem?_eq_some_iff.1 HBX0.out).1 HNE0.out⟩
     clear hO hM
     refine hK.out _ _ ⟨(blk_cell HBX1.out 1).trans rfl, (blk_cell HBX1.out 2).trans rfl, (blk_cell HBX1.out 3).trans rfl, (blk_cell HBX1.out 4).trans rfl⟩ (fun hHeld => ?_)
     clear hK K
     refine norm_ (a' := ?_) ?_ ?_
     rotate_left
     ·show Act.put _ (some 37) _ = _
      simp only [Act.put, List.setIfInBounds_toArray, List.set_cons_zero, List.set_cons_succ, i64_w, i32_w]
      rfl
     refine one_ (i := 6) (N := some 40) #[true, true, true, true, true, true, true, false, true, true, false, true, true, false, false] rfl rfl (one_of HT_.out (by kernel_rfl)) (by decide) (fun K hK => ?_)
     obtain ⟨W2, hW2⟩ : ∃ W, W1.alloc (.cells #[.int .i64 r.f2] 3) = W := ⟨_, rfl⟩
     have hbW2 : Below W1.heap.size W1 W2 := by rw [← hW2]; exact below_alloc (Below.refl _ _) _
     have HO2 := Aside0.mk (HO1.out.later hbW2)
     have HBX2 : Aside0 (W2.heap[gb]? = some (.cells #[.int .i64 r.f0, .slice A1 r.f1.length c1, .int .i64 r.f2, .slice A3 r.f3.length c3, .slice A4 r.f4.length c4] 40 (0, 0))) := ⟨(hbW2.block _ (Array.getElem?_eq_some_iff.1 HBX1.out).1).trans HBX1.out⟩
     have HNE2 := HNE1
     have HRW : Aside0 (RowAt W2 W1.heap.size [r.f2]) := ⟨rowAt_one (by rw [← hW2]; exact box_at _ _)⟩
     have HRN2 : Aside0 (some W1.heap.size ≠ v4.ownBlock) := ⟨fun e => by have := HO1.out.lt _ e; omega⟩
     refine event_step (v := .slice (some ⟨W1.heap.size, 0, none⟩) 1 1) (w1 := W2) (by rfl) (by rw [← hW2]; exact exec_build1 rfl rfl) ?_
     refine hK.out _ _ ⟨(blk_cell HBX2.out 1).trans rfl, (blk_cell HBX2.out 2).trans rfl, (blk_cell HBX2.out 3).trans rfl, (blk_cell HBX2.out 4).trans rfl⟩ (fun hHeld => ?_)
     clear hK K hW2 hbW2
     refine norm_ (a' := ?_) ?_ ?_
     rotate_left
     ·show Act.put _ (some 40) _ = _
      simp only [Act.put, List.setIfInBounds_toArray, List.set_cons_zero, List.set_cons_succ, i64_w, i32_w]
      rfl
     refine one_ (i := 7) (N := some 41) #[true, true, true, true, true, true, true, true, true, true, false, true, true, false, false] rfl rfl (one_of HT_.out (by kernel_rfl)) (by decide) (fun K hK => ?_)
     refine goes_ Tryd.func21 (by kernel_rfl) rfl #[v4, .slice (some ⟨W1.heap.size, 0, none⟩) 1 1] (by rfl) rfl rfl (by (try simp only [List.map_toArray, List.map_cons, List.map_nil]); first | done | rfl) ?_
     refine (listed_calls w0 W2 v4 (Y ++ listB r.f1) (some ⟨W1.heap.size, 0, none⟩) 1 [r.f2] HO2.out (.inr ⟨_, rfl, HRW.out, HRN2.out⟩) HR.out.2.2.1 (by simp) (by have := HYL.out; have := HLB.out; (try simp only [List.length_append]); omega)).mono ?_
     rintro e W5 ⟨v5, rfl, hO, hM⟩
     refine ⟨_, rfl, ?_⟩
     have HO5 := Aside0.mk hO
     have HBX5 : Aside0 (W5.heap[gb]? = some (.cells #[.int .i64 r.f0, .slice A1 r.f1.length c1, .int .i64 r.f2, .slice A3 r.f3.length c3, .slice A4 r.f4.length c4] 40 (0, 0))) := ⟨(hM.keep _ (Array.getElem?_eq_some_iff.1 HBX2.out).1 HNE2.out).trans HBX2.out⟩
     have HNE5 : Aside0 (some gb ≠ v5.ownBlock) := ⟨hM.own _ (Array.getElem?_eq_some_iff.1 HBX2.out).1 HNE2.out⟩
     clear hO hM
     refine hK.out _ _ ⟨(blk_cell HBX5.out 1).trans rfl, (blk_cell HBX5.out 2).trans rfl, (blk_cell HBX5.out 3).trans rfl, (blk_cell HBX5.out 4).trans rfl⟩ (fun hHeld => ?_)
     clear hK K
     refine norm_ (a' := ?_) ?_ ?_
     rotate_left
     ·show Act.put _ (some 41) _ = _
      simp only [Act.put, List.setIfInBounds_toArray, List.set_cons_zero, List.set_cons_succ, i64_w, i32_w]
      rfl
     refine one_ (i := 10) (N := some 44) #[true, true, true, true, true, true, true, true, true, true, true, true, true, false, false] rfl rfl (one_of HT_.out (by kernel_rfl)) (by decide) (fun K hK => ?_)
     refine goes_ Tryd.func21 (by kernel_rfl) rfl #[v5, .slice A3 r.f3.length c3] (by rfl) rfl rfl (by (try simp only [List.map_toArray, List.map_cons, List.map_nil]); first | done | rfl) ?_
     refine (listed_calls w0 W5 v5 (Y ++ listB r.f1 ++ listB [r.f2]) A3 c3 r.f3 HO5.out (.inl HC3.out) HR.out.2.2.2.1.1 (by have := HR.out.2.2.2.1.2; omega) (by have := HYL.out; have := HLB.out; (try simp only [List.length_append]); omega)).mono ?_
     rintro e W6 ⟨v6, rfl, hO, hM⟩
     refine ⟨_, rfl, ?_⟩
     have HO6 := Aside0.mk hO
     have HBX6 : Aside0 (W6.heap[gb]? = some (.cells #[.int .i64 r.f0, .slice A1 r.f1.length c1, .int .i64 r.f2, .slice A3 r.f3.length c3, .slice A4 r.f4.length c4] 40 (0, 0))) := ⟨(hM.keep _ (Array.getElem?_eq_some_iff.1 HBX5.out).1 HNE5.out).trans HBX5.out⟩
     have HNE6 : Aside0 (some gb ≠ v6.ownBlock) := ⟨hM.own _ (Array.getElem?_eq_some_iff.1 HBX5.out).1 HNE5.out⟩
     clear hO hM
     refine hK.out _ _ ⟨(blk_cell HBX6.out 1).trans rfl, (blk_cell HBX6.out 2).trans rfl, (blk_cell HBX6.out 3).trans rfl, (blk_cell HBX6.out 4).trans rfl⟩ (fun hHeld => ?_)
     clear hK K
     refine norm_ (a' := ?_) ?_ ?_
     rotate_left
     ·show Act.put _ (some 44) _ = _
      simp only [Act.put, List.setIfInBounds_toArray, List.set_cons_zero, List.set_cons_succ, i64_w, i32_w]
      rfl
     refine last_ (i := 13) (N := some 47) #[true, true, true, true, true, true, true, true, true, true, true, true, true, true, false] rfl rfl (one_of HT_.out (by kernel_rfl)) (by decide) (fun K hK => ?_)
     refine goes_ Tryd.func21 (by kernel_rfl) rfl #[v6, .slice A4 r.f4.length c4] (by rfl) rfl rfl (by (try simp only [List.map_toArray, List.map_cons, List.map_nil]); first | done | rfl) ?_
     refine (listed_calls w0 W6 v6 (Y ++ listB r.f1 ++ listB [r.f2] ++ listB r.f3) A4 c4 r.f4 HO6.out (.inl HC4.out) HR.out.2.2.2.2.1 (by have := HR.out.2.2.2.2.2; omega) (by have := HYL.out; have := HLB.out; (try simp only [List.length_append]); omega)).mono ?_
     rintro e W7 ⟨v7, rfl, hO, hM⟩
     refine ⟨_, rfl, ?_⟩
     have HO7 := Aside0.mk hO
     have HBX7 : Aside0 (W7.heap[gb]? = some (.cells #[.int .i64 r.f0, .slice A1 r.f1.length c1, .int .i64 r.f2, .slice A3 r.f3.length c3, .slice A4 r.f4.length c4] 40 (0, 0))) := ⟨(hM.keep _ (Array.getElem?_eq_some_iff.1 HBX6.out).1 HNE6.out).trans HBX6.out⟩
     have HNE7 : Aside0 (some gb ≠ v7.ownBlock) := ⟨hM.own _ (Array.getElem?_eq_some_iff.1 HBX6.out).1 HNE6.out⟩
     clear hO hM
     refine hK.out _ _ ?_
     clear hK K
     refine norm_ (a' := ?_) ?_ ?_
     rotate_left
     ·show Act.put _ (some 47) _ = _
      simp only [Act.put, List.setIfInBounds_toArray, List.set_cons_zero, List.set_cons_succ, i64_w, i32_w]
      rfl
     refine pure_ (i := 14) (N := some 3) (v := ?_) (a' := ?_) #[true, true, true, true, true, true, true, true, true, true, true, true, true, true, true] rfl rfl (any_of HT_.out (by kernel_rfl)) (fun _ _ _ h => h) (Or.inl ⟨by rfl, ?_⟩) ?_ ?_
     rotate_left
     ·intro w'
      go_simp
      with_reducible rfl
     rotate_left
     ·simp only [Act.put, List.setIfInBounds_toArray, List.set_cons_zero, List.set_cons_succ, i64_w, i32_w]
      rfl
     exact norm_ (by simp only [putAll, Act.put, List.setIfInBounds_toArray, List.set_cons_zero, List.set_cons_succ]) (hCont (v4, W1.heap.size, v5, v6, v7) _ (by rw [HRT.out]; exact HO7.out))
    ·skip
     obtain ⟨W1, hW1⟩ : ∃ W, W0.alloc (.cells #[.int .i64 r.f2] 3) = W := ⟨_, rfl⟩
     have hbW1 : Below W0.heap.size W0 W1 := by rw [← hW1]; exact below_alloc (Below.refl _ _) _
     have HO1 := Aside0.mk (HO0.out.later hbW1)
     have HBX1 : Aside0 (W1.heap[gb]? = some (.cells #[.int .i64 r.f0, .slice A1 r.f1.length c1, .int .i64 r.f2, .slice A3 r.f3.length c3, .slice A4 r.f4.length c4] 40 (0, 0))) := ⟨(hbW1.block _ (Array.getElem?_eq_some_iff.1 HBX0.out).1).trans HBX0.out⟩
     have HNE1 := HNE0
     have HRW : Aside0 (RowAt W1 W0.heap.size [r.f2]) := ⟨rowAt_one (by rw [← hW1]; exact box_at _ _)⟩
     have HRN2 : Aside0 (some W0.heap.size ≠ v3.ownBlock) := ⟨fun e => by have := HO0.out.lt _ e; omega⟩
     refine event_step (v := .slice (some ⟨W0.heap.size, 0, none⟩) 1 1) (w1 := W1) (by rfl) (by rw [← hW1]; exact exec_build1 rfl rfl) ?_
     refine hK.out _ _ ⟨(blk_cell HBX1.out 1).trans rfl, (blk_cell HBX1.out 2).trans rfl, (blk_cell HBX1.out 3).trans rfl, (blk_cell HBX1.out 4).trans rfl⟩ (fun hHeld => ?_)
     clear hK K hW1 hbW1
     refine norm_ (a' := ?_) ?_ ?_
     rotate_left
     ·show Act.put _ (some 40) _ = _
      simp only [Act.put, List.setIfInBounds_toArray, List.set_cons_zero, List.set_cons_succ, i64_w, i32_w]
      rfl
     refine one_ (i := 3) (N := some 37) #[true, true, true, true, true, true, true, false, true, true, false, true, true, false, false] rfl rfl (one_of HT_.out (by kernel_rfl)) (by decide) (fun K hK => ?_)
     refine goes_ Tryd.func21 (by kernel_rfl) rfl #[v3, .slice A1 r.f1.length c1] (by rfl) rfl rfl (by (try simp only [List.map_toArray, List.map_cons, List.map_nil]); first | done | rfl) ?_
     refine (listed_calls w0 W1 v3 (Y) A1 c1 r.f1 HO1.out (.inl HC1.out) HR.out.2.1.1 (by have := HR.out.2.1.2; omega) (by have := HYL.out; have := HLB.out; (try simp only [List.length_append]); omega)).mono ?_
     rintro e W2 ⟨v4, rfl, hO, hM⟩
     refine ⟨_, rfl, ?_⟩
     have HO2 := Aside0.mk hO
     have HBX2 : Aside0 (W2.heap[gb]? = some (.cells #[.int .i64 r.f0, .slice A1 r.f1.length c1, .int .i64 r.f2, .slice A3 r.f3.length c3, .slice A4 r.f4.length c4] 40 (0, 0))) := ⟨(hM.keep _ (Array.getElem?_eq_some_iff.1 HBX1.out).1 HNE1.out).trans HBX1.out⟩
     have HNE2 : Aside0 (some gb ≠ v4.ownBlock) := ⟨hM.own _ (Array.getElem?_eq_some_iff.1 HBX1.out).1 HNE1.out⟩
     have HSR : Aside0 (Src w0 W2 v4 (some ⟨W0.heap.size, 0, none⟩) [r.f2]) := ⟨Src.moved (.inr ⟨_, rfl, HRW.out, HRN2.out⟩) hM⟩
     clear hO hM
     refine hK.out _ _ ⟨(blk_cell HBX2.out 1).trans rfl, (blk_cell HBX2.out 2).trans rfl, (blk_cell HBX2.out 3).trans rfl, (blk_cell HBX2.out 4).trans rfl⟩ (fun hHeld => ?_)
     clear hK K
     refine norm_ (a' := ?_) ?_ ?_
     rotate_left
     ·show Act.put _ (some 37) _ = _
      simp only [Act.put, List.setIfInBounds_toArray, List.set_cons_zero, List.set_cons_succ, i64_w, i32_w]
      rfl
     refine one_ (i := 7) (N := some 41) #[true, true, true, true, true, true, true, true, true, true, false, true, true, false, false] rfl rfl (one_of HT_.out (by kernel_rfl)) (by decide) (fun K hK => ?_)
     refine goes_ Tryd.func21 (by kernel_rfl) rfl #[v4, .slice (some ⟨W0.heap.size, 0, none⟩) 1 1] (by rfl) rfl rfl (by (try simp only [List.map_toArray, List.map_cons, List.map_nil]); first | done | rfl) ?_
     refine (listed_calls w0 W2 v4 (Y ++ listB r.f1) (some ⟨W0.heap.size, 0, none⟩) 1 [r.f2] HO2.out HSR.out HR.out.2.2.1 (by simp) (by have := HYL.out; have := HLB.out; (try simp only [List.length_append]); omega)).mono ?_
     rintro e W5 ⟨v5, rfl, hO, hM⟩
     refine ⟨_, rfl, ?_⟩
     have HO5 := Aside0.mk hO
     have HBX5 : Aside0 (W5.heap[gb]? = some (.cells #[.int .i64 r.f0, .slice A1 r.f1.length c1, .int .i64 r.f2, .slice A3 r.f3.length c3, .slice A4 r.f4.length c4] 40 (0, 0))) := ⟨(hM.keep _ (Array.getElem?_eq_some_iff.1 HBX2.out).1 HNE2.out).trans HBX2.out⟩
     have HNE5 : Aside0 (some gb ≠ v5.ownBlock) := ⟨hM.own _ (Array.getElem?_eq_some_iff.1 HBX2.out).1 HNE2.out⟩
     clear hO hM
     refine hK.out _ _ ⟨(blk_cell HBX5.out 1).trans rfl, (blk_cell HBX5.out 2).trans rfl, (blk_cell HBX5.out 3).trans rfl, (blk_cell HBX5.out 4).trans rfl⟩ (fun hHeld => ?_)
     clear hK K
     refine norm_ (a' := ?_) ?_ ?_
     rotate_left
     ·show Act.put _ (some 41) _ = _
      simp only [Act.put, List.setIfInBounds_toArray, List.set_cons_zero, List.set_cons_succ, i64_w, i32_w]
      rfl
     refine one_ (i := 10) (N := some 44) #[true, true, true, true, true, true, true, true, true, true, true, true, true, false, false] rfl rfl (one_of HT_.out (by kernel_rfl)) (by decide) (fun K hK => ?_)
     refine goes_ Tryd.func21 (by kernel_rfl) rfl #[v5, .slice A3 r.f3.length c3] (by rfl) rfl rfl (by (try simp only [List.map_toArray, List.map_cons, List.map_nil]); first | done | rfl) ?_
     refine (listed_calls w0 W5 v5 (Y ++ listB r.f1 ++ listB [r.f2]) A3 c3 r.f3 HO5.out (.inl HC3.out) HR.out.2.2.2.1.1 (by have := HR.out.2.2.2.1.2; omega) (by have := HYL.out; have := HLB.out; (try simp only [List.length_append]); omega)).mono ?_
     rintro e W6 ⟨v6, rfl, hO, hM⟩
     refine ⟨_, rfl, ?_⟩
     have HO6 := Aside0.mk hO
     have HBX6 : Aside0 (W6.heap[gb]? = some (.cells #[.int .i64 r.f0, .slice A1 r.f1.length c1, .int .i64 r.f2, .slice A3 r.f3.length c3, .slice A4 r.f4.length c4] 40 (0, 0))) := ⟨(hM.keep _ (Array.getElem?_eq_some_iff.1 HBX5.out).1 HNE5.out).trans HBX5.out⟩
     have HNE6 : Aside0 (some gb ≠ v6.ownBlock) := ⟨hM.own _ (Array.getElem?_eq_some_iff.1 HBX5.out).1 HNE5.out⟩
     clear hO hM
     refine hK.out _ _ ⟨(blk_cell HBX6.out 1).trans rfl, (blk_cell HBX6.out 2).trans rfl, (blk_cell HBX6.out 3).trans rfl, (blk_cell HBX6.out 4).trans rfl⟩ (fun hHeld => ?_)
     clear hK K
     refine norm_ (a' := ?_) ?_ ?_
     rotate_left
     ·show Act.put _ (some 44) _ = _
      simp only [Act.put, List.setIfInBounds_toArray, List.set_cons_zero, List.set_cons_succ, i64_w, i32_w]
      rfl
     refine last_ (i := 13) (N := some 47) #[true, true, true, true, true, true, true, true, true, true, true, true, true, true, false] rfl rfl (one_of HT_.out (by kernel_rfl)) (by decide) (fun K hK => ?_)
     refine goes_ Tryd.func21 (by kernel_rfl) rfl #[v6, .slice A4 r.f4.length c4] (by rfl) rfl rfl (by (try simp only [List.map_toArray, List.map_cons, List.map_nil]); first | done | rfl) ?_
     refine (listed_calls w0 W6 v6 (Y ++ listB r.f1 ++ listB [r.f2] ++ listB r.f3) A4 c4 r.f4 HO6.out (.inl HC4.out) HR.out.2.2.2.2.1 (by have := HR.out.2.2.2.2.2; omega) (by have := HYL.out; have := HLB.out; (try simp only [List.length_append]); omega)).mono ?_
     rintro e W7 ⟨v7, rfl, hO, hM⟩
     refine ⟨_, rfl, ?_⟩
     have HO7 := Aside0.mk hO
     have HBX7 : Aside0 (W7.heap[gb]? = some (.cells #[.int .i64 r.f0, .slice A1 r.f1.length c1, .int .i64 r.f2, .slice A3 r.f3.length c3, .slice A4 r.f4.length c4] 40 (0, 0))) := ⟨(hM.keep _ (Array.getElem?_eq_some_iff.1 HBX6.out).1 HNE6.out).trans HBX6.out⟩
     have HNE7 : Aside0 (some gb ≠ v7.ownBlock) := ⟨hM.own _ (Array.getElem?_eq_some_iff.1 HBX6.out).1 HNE6.out⟩
     clear hO hM
     refine hK.out _ _ ?_
     clear hK K
     refine norm_ (a' := ?_) ?_ ?_
     rotate_left
     ·show Act.put _ (some 47) _ = _
      simp only [Act.put, List.setIfInBounds_toArray, List.set_cons_zero, List.set_cons_succ, i64_w, i32_w]
      rfl
     refine pure_ (i := 14) (N := some 3) (v := ?_) (a' := ?_) #[true, true, true, true, true, true, true, true, true, true, true, true, true, true, true] rfl rfl (any_of HT_.out (by kernel_rfl)) (fun _ _ _ h => h) (Or.inl ⟨by rfl, ?_⟩) ?_ ?_
     rotate_left
     ·intro w'
      go_simp
      with_reducible rfl
     rotate_left
     ·simp only [Act.put, List.setIfInBounds_toArray, List.set_cons_zero, List.set_cons_succ, i64_w, i32_w]
      rfl
     exact norm_ (by simp only [putAll, Act.put, List.setIfInBounds_toArray, List.set_cons_zero, List.set_cons_succ]) (hCont (v4, W0.heap.size, v5, v6, v7) _ (by rw [HRT.out]; exact HO7.out))
   rintro ⟨v4, g4, v5, v6, v7⟩ w7 hO7
   refine norm_ (a' := ?_) ?_ ?_
   rotate_left
   ·simp only [putAll, Act.put, List.setIfInBounds_toArray, List.set_cons_zero, List.set_cons_succ]
    rfl
   have HO7 : Aside0 (OwnM w0 w7 v7 (X ++ ruleT r)) := ⟨hO7⟩
   clear hO7
   refine done_ (done_of HT_.out (by kernel_rfl)) ?_
   go_wp2
   go_roundg (l.length - (i + 1))
   case measure => have := HG2.out; have := CL.out; omega
   case rel =>
    have := CL.out
    refine ⟨i + 1, ?_, ⟨by omega⟩, ⟨by omega⟩, ⟨by rw [HNX.out]; exact HO7.out⟩⟩
    rw [show wrap64 ((i : Int) + 1) = ((i + 1 : Nat) : Int) by have := HL3.out; unfold wrap64; omega]
  ·have clb : decide ((i : Int) < (l.length : Int)) = false := decide_eq_false (by omega)
   have clb2 : decide (i < l.length) = false := decide_eq_false cl
   have HFIN : Aside0 (writeT a0 a1 a2 (l.take i) = writeT a0 a1 a2 l) := ⟨by rw [List.take_of_length_le (by omega)]⟩
   clear cl
   have htx := HAT.out.text
   have HTX := Aside0.mk htx
   go_wp2
   go_ret
   refine ⟨by rw [← HFIN.out]; simp [results, Tryd.results9, go_sem], below_step HB0.out HAT.out.below⟩
end Go.Proofs.YtfoodfhhdbaieaaDoor.Giv
