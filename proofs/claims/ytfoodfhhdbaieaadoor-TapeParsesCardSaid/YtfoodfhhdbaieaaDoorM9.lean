-- CUT by a program of this session: what the claim does not use is left out
import Derived.Test.YtfoodfhhdbaieaaDoorM8
import Derived.Laws.Append
import Derived.Test.YtfoodfhhdbaieaaDoorT9
namespace Go.Proofs.YtfoodfhhdbaieaaDoor.Giv
set_option maxRecDepth 100000
set_option linter.unusedVariables false
set_option linter.unusedSimpArgs false
open Go.RowKit Go.Shelf Go.Proofs.YtfoodfhhdbaieaaDoorW.PrintWords Go.Proofs.YtfoodfhhdbaieaaDoorW.PrintLast Go.Proofs.YtfoodfhhdbaieaaDoorW.PrintMore
open Go.Proofs.YtfoodfhhdbaieaaDoor.Ka (S40 k40 z40 rd_T40 at_T40 k40_open k40_mk rd_L1 at_L1 info3 info38 info40)
theorem run_append_made (t u ty e : TypeId) (i : TypeInfo) (z : Value) (w : World) (ht : Tryd.prog.underlying t = some (.slice e)) (hu : Tryd.prog.underlying u = some (.int .i64)) (hi : Tryd.prog.info? e = some i) (hz : i.zero = some z) (hs : 0 < i.size)
  (n : Nat) (h0 : 0 < n) (hn : n ≤ 1000000) (h48 : i.bytes ≤ 64) :
  (Builtin.append_ #[t, u] ty #[.slice none 0 0, .int .i64 (n : Int)]).run Tryd.prog w =
   .ok (.slice (some ⟨w.heap.size, 0, none⟩) n (grownCap w n 0 e)) (w.drew.alloc (.cells (Builtin.zeroCells z.cells n ++ Builtin.zeroCells z.cells (grownCap w n 0 e - n)) e)) := by
 have hb : n * i.bytes ≤ 64000000 := Nat.le_trans (Nat.mul_le_mul hn h48) (by decide)
 have hbi : (n : Int) * (i.bytes : Int) ≤ 64000000 := by rw [← Int.natCast_mul]; omega
 have hw : IntKind.i64.wrap (n : Int) = (n : Int) := by rw [IntKind.wrap_i64]; omega
 have hns : n * i.size ≠ 0 := by
  have := Nat.mul_pos h0 hs
  omega
 have h48' : ¬ (281474976710656 < Builtin.nextslicecap n 0 * i.bytes) := by rw [nextslicecap_zero h0]; omega
 have h1 : ¬ ((n : Int) < 0) := by omega
 have h2 : ¬ (281474976710656 < (n : Int) * (i.bytes : Int)) := by omega
 have h3 : n ≠ 0 := by omega
 have h4 : i.size ≠ 0 := by omega
 have h63' : ¬ (9223372036854775807 < (n : Int)) := by omega
 simp [Builtin.append_, run_underlying ht, run_underlying hu, sizeOf, typeInfo, zeroValue, hi, hz, asInt, asIntOf, hw, h1, h2, h3, h4, h63', h48', hns, Question.forced, run_firstCells_none, newRow, grownCap]
structure Room (w0 w : World) (v : Value) : Prop where
 row : w.ownsRow w0.heap.size 3 1 v 0 []
 below : Below w0.heap.size w0 w
theorem room_of {w0 w : World} {g c : Nat} {cur : Array Value} (hg : w0.heap.size ≤ g) (hb : Below w0.heap.size w0 w) (hh : w.heap[g]? = some (.cells cur 3 (0, 0))) (hc : c ≤ maxLen) (hs : cur.size = c * 1) : Room w0 w (.slice (some ⟨g, 0, none⟩) 0 c) :=
 ⟨⟨rfl, .inr ⟨g, c, cur, rfl, hg, hh, Nat.zero_le _, hc, hs, by simp⟩⟩, hb⟩
theorem wpList_append_made {ops : Array Oper} {rest : List Oper} {o : Oper} {a : Act} {Q : Exit → Act → World → Prop} {w : World} (hgd : o.guard = none) (s x : Operand)
  (ho : o.op = .call { callee := .builtin .append, args := #[s, x], argTypes := #[38, 3] }) (n : Nat) (hs : a.eval s = .slice none 0 0) (N : Int) (hx : a.eval x = .int .i64 N) (hN : N = (n : Int)) (h0 : 0 < n) (hn : n ≤ 1000000)
  (h : ∀ c w1, n ≤ c → (∀ w0, w0.heap.size ≤ w.heap.size → Below w0.heap.size w0 w → Room w0 w1 (.slice (some ⟨w.heap.size, 0, none⟩) 0 c)) → wpList Tryd.prog ops Q rest (a.put o.dst (.slice (some ⟨w.heap.size, 0, none⟩) n c)) w1) :
  wpList Tryd.prog ops Q (o :: rest) a w := by
 subst hN
 refine wpList_plain hgd fun K hK => ?_
 obtain ⟨i0, hi, hzz⟩ := Option.map_eq_some_iff.1 info3
 simp only [Prod.mk.injEq] at hzz
 obtain ⟨hz0, hz1, hz2⟩ := hzz
 have hr := run_append_made 38 3 o.type 3 i0 _ w Tryd.underlying38 Tryd.underlying3 hi hz0 (by rw [hz1]; decide) n h0 hn (by rw [hz2]; decide)
 unfold Oper.wp execOp
 simp only [ho, resolve, invoke, builtin, Sem.run_bind, Sem.run_pure, Result.andThen_ok, List.map_toArray, List.map_cons, List.map_nil, hs, hx, hr]
 refine hK _ _ (h _ _ (grownCap_ge _ _ _ _) fun w0 hw0 hb => ?_)
 refine room_of hw0 (below_alloc (below_drew hb) _) (heap_alloc_new w.drew _) (grownCap_le_maxLen _ _ _ _ (by unfold maxLen; omega)) ?_
 have hge := grownCap_ge w n 0 3
 rw [Array.size_append, size_zeroCells, size_zeroCells]
 show n * 1 + (grownCap w n 0 3 - n) * 1 = grownCap w n 0 3 * 1
 omega
set_option maxHeartbeats 2000000 in
set_option maxRecDepth 100000 in
theorem grow_calls (n : Nat) (hn : n ≤ 1000000) (w : World) : Calls Tryd.prog 53 #[.slice none 0 0, .int .i64 (n : Int)] w fun e w' => ∃ v, e = .returned v ∧ Room w w' v := by
 have HB := Aside0.mk (Below.refl w.heap.size w)
 by_cases h0 : n = 0
 ·subst h0
  go_enter Tryd.func53, Tryd.ntmps53
  go_wp2
  go_ret
  exact ⟨_, by simp [results, Tryd.results53, go_sem], ⟨rfl, .inl ⟨rfl, rfl⟩⟩, HB.out⟩
 ·have d1 : decide ((n : Int) < 0) = false := decide_eq_false (by omega)
  have d2 : decide (0 < (n : Int)) = true := decide_eq_true (by omega)
  have d3 : decide (0 < n) = true := decide_eq_true (by omega)
  have hw : wrap64 (n : Int) = (n : Int) := by unfold wrap64; omega
  have H0 := Aside0.mk h0
  have HN := Aside0.mk hn
  have HW := Aside0.mk hw
  have d4 : decide (0 < wrap64 (n : Int)) = true := by rw [hw]; exact d2
  clear h0 hn hw
  go_enter Tryd.func53, Tryd.ntmps53
  go_wp2_with (at_builtin; refine wpList_append_made rfl (.tmp 20) (.tmp 21) rfl n rfl _ rfl HW.out (by have := H0.out; omega) HN.out ?_; intro c w1 hc hroom; have HR := Aside0.mk (hroom w (Nat.le_refl _) HB.out); have hc0 : (0 ≤ c) = True := eq_true (Nat.zero_le _); clear hroom)
  go_ret
  exact ⟨_, by simp [results, Tryd.results53, go_sem], HR.out⟩
theorem flat_next {l : List (List Int)} {i : Nat} (h : i < l.length) : (l.take (i + 1)).flatten = (l.take i).flatten ++ l[i] := by
 rw [List.take_succ_eq_append_getElem h, List.flatten_append]; simp
theorem flat_le (l : List (List Int)) (i : Nat) : ((l.take i).flatten).length ≤ l.flatten.length := by
 have e : l.flatten = (l.take i).flatten ++ (l.drop i).flatten := by rw [← List.flatten_append, List.take_append_drop]
 rw [e, List.length_append]; omega
theorem rd_L1_at (l : List (List Int)) (i : Nat) (h : i < l.length) : rd_L1 l (i : Int) = l[i] := by
 simp [rd_L1, List.getD_eq_getElem?_getD, List.getElem?_eq_getElem h]
set_option maxHeartbeats 8000000 in
set_option maxRecDepth 100000 in
theorem concat_calls (A0 : Option Addr) (c0 : Nat) (l0 : List (List Int)) (w : World) (hr0 : Kd.C (Kd.slice 3 (Kd.int .i64)) w A0 l0.length l0) (hle : l0.flatten.length ≤ 1000000) (hne : ∀ s ∈ l0, s ≠ []) :
  Calls Tryd.prog 40 #[.slice A0 l0.length c0] w fun e w' => ∃ v0_ : Value, e = .returned v0_ ∧ w'.ownsRow w.heap.size 3 1 v0_ l0.flatten.length (l0.flatten.map (Value.int .i64)) ∧ Below w.heap.size w w' := by
 have HNE := Aside0.mk hne
 have HC := Aside0.mk hr0
 have HB := Aside0.mk (Below.refl w.heap.size w)
 have HLE := Aside0.mk hle
 have HL : Aside0 (l0.length ≤ 9223372036854775807) := ⟨hr0.2.1⟩
 clear hr0 hle hne
 go_enter Tryd.func40, Tryd.ntmps40
 go_wp2
 go_loopg [3, 11] l0.length (fun gg s3 s11 wr => ∃ i : Nat, s3 = .int .i64 (((l0.take i).flatten.length : Nat) : Int) ∧ s11 = .int .i64 (i : Int) ∧ Aside0 (i ≤ l0.length) ∧ Aside0 (l0.length - i = gg) ∧ wr = w)
 case atStart => exact ⟨0, rfl, rfl, ⟨by omega⟩, ⟨by omega⟩, rfl⟩
 case round =>
  obtain ⟨i, rfl, rfl, HI, HG, hwr⟩ := hrel
  subst hwr
  by_cases cl : i < l0.length
  ·have clb : decide ((i : Int) < (l0.length : Int)) = true := decide_eq_true (by omega)
   have clb2 : decide (i < l0.length) = true := decide_eq_true cl
   obtain ⟨ad, A1, c1, e1, h0, hl1, hC1⟩ := at_L1 HC.out (i : Int) (by omega) (by omega)
   rw [rd_L1_at l0 i cl] at h0 hl1 hC1
   subst e1
   have p1 : (0 ≤ (i : Int)) = True := eq_true (by omega)
   have q1 : ((i : Int) < (l0.length : Int)) = True := eq_true (by omega)
   have q2 : (i < l0.length) = True := eq_true cl
   rw [Int.toNat_natCast] at h0
   have HN := Aside0.mk (flat_next cl)
   have HF := Aside0.mk (flat_le l0 (i + 1))
   obtain ⟨s, hs⟩ : ∃ s, s = l0[i] := ⟨_, rfl⟩
   rw [← hs] at h0 HN
   have CL := Aside0.mk cl
   clear cl hs hl1 hC1
   obtain ⟨N, hN⟩ : ∃ N, (List.take i l0).flatten.length = N := ⟨_, rfl⟩
   rw [hN]
   have HNN := Aside0.mk hN
   have HSUM : Aside0 ((l0.take (i + 1)).flatten.length = N + s.length) := ⟨by rw [HN.out, List.length_append, HNN.out]⟩
   have HW : Aside0 (wrap64 ((N : Int) + (s.length : Int)) = ((N + s.length : Nat) : Int)) := ⟨by have := HSUM.out; have := HF.out; have := HLE.out; unfold wrap64; omega⟩
   have d1 : decide (wrap64 ((N : Int) + (s.length : Int)) < 0) = false := by rw [HW.out]; exact decide_eq_false (by omega)
   clear hN
   go_wp2
   go_roundg (l0.length - (i + 1))
   case measure => have := HG.out; have := CL.out; omega
   case rel =>
    have := CL.out
    refine ⟨i + 1, ?_, ?_, ⟨by omega⟩, ⟨by omega⟩, rfl⟩
    ·rw [HSUM.out, ← HW.out]
    ·rw [show wrap64 ((i : Int) + 1) = ((i + 1 : Nat) : Int) by have := HL.out; unfold wrap64; omega]
  ·have clb : decide ((i : Int) < (l0.length : Int)) = false := decide_eq_false (by omega)
   have clb2 : decide (i < l0.length) = false := decide_eq_false cl
   have HFL : Aside0 ((l0.take i).flatten.length = l0.flatten.length) := ⟨by rw [List.take_of_length_le (by omega)]⟩
   rw [HFL.out]
   obtain ⟨NN, hNN⟩ : ∃ N, l0.flatten.length = N := ⟨_, rfl⟩
   have HLN : Aside0 (NN ≤ 1000000) := ⟨by rw [← hNN]; exact HLE.out⟩
   rw [hNN]
   clear cl hNN
   go_wp2_with (go_at_call 53; refine (grow_calls NN HLN.out wr).mono ?_; rintro e w2 ⟨v, rfl, hroom⟩; have HR := Aside0.mk hroom; clear hroom)
   obtain ⟨wo, rfl⟩ : ∃ wo, wo = wr := ⟨_, rfl⟩
   go_loopg [6, 27] l0.length (fun gg s6 s27 wq => ∃ (i : Nat) (v6 : Value), s6 = v6 ∧ s27 = .int .i64 (i : Int) ∧ Aside0 (i ≤ l0.length) ∧ Aside0 (l0.length - i = gg) ∧ Aside0 (wq.ownsRow wo.heap.size 3 1 v6 (l0.take i).flatten.length ((l0.take i).flatten.map (Value.int .i64))) ∧ Aside0 (Below wo.heap.size wo wq))
   case atStart => exact ⟨0, _, rfl, rfl, ⟨by omega⟩, ⟨by omega⟩, ⟨HR.out.row⟩, ⟨HR.out.below⟩⟩
   case round =>
    obtain ⟨j, v6, rfl, rfl, HJ, HG2, HRO, HBQ⟩ := hrel
    by_cases cl : j < l0.length
    ·have clb : decide ((j : Int) < (l0.length : Int)) = true := decide_eq_true (by omega)
     have clb2 : decide (j < l0.length) = true := decide_eq_true cl
     obtain ⟨ad, A1, c1, e1, h0, hl1, hC1⟩ := at_L1 HC.out (j : Int) (by omega) (by omega)
     rw [rd_L1_at l0 j cl] at h0 hl1 hC1
     subst e1
     have p1 : (0 ≤ (j : Int)) = True := eq_true (by omega)
     have q1 : ((j : Int) < (l0.length : Int)) = True := eq_true (by omega)
     have q2 : (j < l0.length) = True := eq_true cl
     rw [Int.toNat_natCast] at h0
     have HN := Aside0.mk (flat_next cl)
     have HF := Aside0.mk (flat_le l0 (j + 1))
     obtain ⟨s, hs⟩ : ∃ s, s = l0[j] := ⟨_, rfl⟩
     rw [← hs] at h0 HN hC1
     have CL := Aside0.mk cl
     have HC1 := Aside0.mk (Kd.C_below hC1 HBQ.out)
     replace h0 := pw_cell_below HBQ.out h0
     have HSNE : Aside0 (s ≠ []) := ⟨by rw [hs]; exact HNE.out _ (List.getElem_mem _)⟩
     clear cl hs hl1 hC1
     have HSUM0 : Aside0 ((l0.take j).flatten.length + s.length ≤ 1000000) := ⟨by have := HF.out; rw [HN.out, List.length_append] at this; have := HLE.out; omega⟩
     obtain ⟨X, hX⟩ : ∃ X, X = (l0.take j).flatten := ⟨_, rfl⟩
     have HSUM : Aside0 (X.length + s.length ≤ 1000000) := ⟨by rw [hX]; exact HSUM0.out⟩
     have HN2 : Aside0 ((l0.take (j + 1)).flatten = X ++ s) := ⟨by rw [hX]; exact HN.out⟩
     rw [← hX] at HRO
     clear hX HSUM0 HN
     obtain ⟨Ao, co, ev⟩ := own_slice HRO.out
     subst ev
     obtain ⟨ad2, eA, hcs⟩ := (C_cells HC1.out).2 (List.length_pos_iff.2 HSNE.out)
     subst eA
     have HCS := Aside0.mk hcs
     clear hcs
     obtain ⟨i0, hi, hzz⟩ := Option.map_eq_some_iff.1 info3
     simp only [Prod.mk.injEq] at hzz
     obtain ⟨hz0, hz1, hz2⟩ := hzz
     have HI0 := Aside0.mk hi
     have HZ := Aside0.mk (And.intro hz0 (And.intro hz1 hz2))
     clear hi hz0 hz1 hz2
     go_wp2_with (at_builtin; refine wpList_append_own _ rfl (.tmp 31) (.tmp 32) 38 rfl wo.heap.size 3 i0 (.int .i64 0) 1 8 Tryd.underlying38 HI0.out HZ.out.1 HZ.out.2.1 HZ.out.2.2 rfl (by decide) _ _ _ rfl HRO.out ad2 s.length c1 (s.map (Value.int .i64)) rfl (by rw [List.length_map]; omega) HCS.out (by intro u hu; obtain ⟨x, _, rfl⟩ := List.mem_map.1 hu; rfl) (by have := HSUM.out; unfold maxLen; omega) (by have := HSUM.out; omega) HBQ.out.size ?_; intro v' w11 ho hg _; have HRO2 := Aside0.mk ho; have HBQ2 := Aside0.mk (HBQ.out.grown hg HBQ.out.size (fun k hk => (HRO.out.lt k hk).1)); clear ho hg)
     go_roundg (l0.length - (j + 1))
     case measure => have := HG2.out; have := CL.out; omega
     case rel =>
      have := CL.out
      refine ⟨j + 1, _, rfl, ?_, ⟨by omega⟩, ⟨by omega⟩, ⟨by rw [HN2.out, List.length_append, List.map_append]; exact HRO2.out⟩, HBQ2⟩
      rw [show wrap64 ((j : Int) + 1) = ((j + 1 : Nat) : Int) by have := HL.out; unfold wrap64; omega]
    ·have clb : decide ((j : Int) < (l0.length : Int)) = false := decide_eq_false (by omega)
     have clb2 : decide (j < l0.length) = false := decide_eq_false cl
     have HFIN : Aside0 ((l0.take j).flatten = l0.flatten) := ⟨by rw [List.take_of_length_le (by omega)]⟩
     have h_ := HRO.out
     rw [HFIN.out] at h_
     have HRO3 := Aside0.mk h_
     clear h_
     clear cl HRO
     go_wp2
     go_ret
     exact ⟨_, by simp [results, Tryd.results40, go_sem], HRO3.out, HBQ.out⟩
end Go.Proofs.YtfoodfhhdbaieaaDoor.Giv
