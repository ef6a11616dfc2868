-- CUT by a program of this session: what the claim does not use is left out
import Derived.Test.YthfhnkpipdbekaaDoorN6
import Derived.Laws.Append
namespace Go.Proofs.YthfhnkpipdbekaaDoor.Giv
set_option linter.unusedVariables false
set_option linter.unusedSimpArgs false
open Go.RowKit Go.Shelf Go.Proofs.YthfhnkpipdbekaaDoorW.PrintWords Go.Proofs.YthfhnkpipdbekaaDoorW.PrintLast Go.Proofs.YthfhnkpipdbekaaDoorW.PrintMore
open Go.Proofs.YthfhnkpipdbekaaDoor.Ua (S67 k67 z67 rd_T67 at_T67 k67_open k67_openM k67_mkM info67 rd_L9 at_L9)
theorem run_append_made (t u ty e : TypeId) (i : TypeInfo) (z : Value) (w : World) (ht : Tryd.prog.underlying t = some (.slice e)) (hu : Tryd.prog.underlying u = some (.int .i64)) (hi : Tryd.prog.info? e = some i) (hz : i.zero = some z) (hs : 0 < i.size)
  (n : Nat) (h0 : 0 < n) (hn : n ≤ 1000000) (h48 : i.bytes ≤ 64) :
  (Builtin.append_ #[t, u] ty #[.slice none 0 0, .int .i64 (n : Int)]).run Tryd.prog w =
   .ok (.slice (some ⟨w.heap.size, 0, none⟩) n (grownCap w n 0 e)) (w.drew.alloc (.cells (Builtin.zeroCells z.cells n ++ Builtin.zeroCells z.cells (grownCap w n 0 e - n)) e)) := by
 have hb : n * i.bytes ≤ 64000000 := Nat.le_trans (Nat.mul_le_mul hn h48) (by decide)
 have hbi : (n : Int) * (i.bytes : Int) ≤ 64000000 := by rw [← Int.natCast_mul]; omega
 have hw : IntKind.i64.wrap (n : Int) = (n : Int) := by rw [IntKind.wrap_i64]; omega
 have hns : n * i.size ≠ 0 := by
  have := Nat.mul_pos h0 hs
  omega
 have h48' : ¬ (281474976710656 < Builtin.nextslicecap n 0 * i.bytes) := by rw [nextslicecap_zero h0]; omega
 have h1 : ¬ ((n : Int) < 0) := by omega
 have h2 : ¬ (281474976710656 < (n : Int) * (i.bytes : Int)) := by omega
 have h3 : n ≠ 0 := by omega
 have h4 : i.size ≠ 0 := by omega
 have h63' : ¬ (9223372036854775807 < (n : Int)) := by omega
 simp [Builtin.append_, run_underlying ht, run_underlying hu, sizeOf, typeInfo, zeroValue, hi, hz, asInt, asIntOf, hw, h1, h2, h3, h4, h63', h48', hns, Question.forced, run_firstCells_none, newRow, grownCap]
structure Room (w0 w : World) (v : Value) : Prop where
 row : Kd.R k67 67 w w0.heap.size (fun _ => True) v []
 below : Below w0.heap.size w0 w
theorem room_of {w0 w : World} {g c : Nat} {cur : Array Value} (hg : w0.heap.size ≤ g) (hb : Below w0.heap.size w0 w) (hh : w.heap[g]? = some (.cells cur 67 (0, 0))) (hc : c ≤ maxLen) (hs : cur.size = c * 4) : Room w0 w (.slice (some ⟨g, 0, none⟩) 0 c) := by
 obtain ⟨_, inner, h1, h2⟩ := Kd.R_nil k67 67 w w0.heap.size (fun _ => True)
 have : inner = [] := List.eq_nil_of_length_eq_zero (by simpa using h1.1)
 subst this
 exact ⟨⟨fun _ _ => trivial, [], ⟨rfl, .inr ⟨g, c, cur, rfl, hg, hh, Nat.zero_le _, hc, hs, by simp⟩⟩, h2⟩, hb⟩
theorem wpList_append_made {ops : Array Oper} {rest : List Oper} {o : Oper} {a : Act} {Q : Exit → Act → World → Prop} {w : World} (hgd : o.guard = none) (s x : Operand)
  (ho : o.op = .call { callee := .builtin .append, args := #[s, x], argTypes := #[23, 3] }) (n : Nat) (hs : a.eval s = .slice none 0 0) (N : Int) (hx : a.eval x = .int .i64 N) (hN : N = (n : Int)) (h0 : 0 < n) (hn : n ≤ 1000000)
  (h : ∀ c w1, n ≤ c → (∀ w0, w0.heap.size ≤ w.heap.size → Below w0.heap.size w0 w → Room w0 w1 (.slice (some ⟨w.heap.size, 0, none⟩) 0 c)) → wpList Tryd.prog ops Q rest (a.put o.dst (.slice (some ⟨w.heap.size, 0, none⟩) n c)) w1) :
  wpList Tryd.prog ops Q (o :: rest) a w := by
 subst hN
 refine wpList_plain hgd fun K hK => ?_
 obtain ⟨i0, hi, hzz⟩ := Option.map_eq_some_iff.1 info67
 simp only [Prod.mk.injEq] at hzz
 obtain ⟨hz0, hz1, hz2⟩ := hzz
 have hr := run_append_made 23 3 o.type 67 i0 _ w Tryd.underlying23 Tryd.underlying3 hi hz0 (by rw [hz1]; decide) n h0 hn (by rw [hz2]; decide)
 unfold Oper.wp execOp
 simp only [ho, resolve, invoke, builtin, Sem.run_bind, Sem.run_pure, Result.andThen_ok, List.map_toArray, List.map_cons, List.map_nil, hs, hx, hr]
 refine hK _ _ (h _ _ (grownCap_ge _ _ _ _) fun w0 hw0 hb => ?_)
 refine room_of hw0 (below_alloc (below_drew hb) _) (heap_alloc_new w.drew _) (grownCap_le_maxLen _ _ _ _ (by unfold maxLen; omega)) ?_
 have hge := grownCap_ge w n 0 67
 rw [Array.size_append, size_zeroCells, size_zeroCells]
 show n * 4 + (grownCap w n 0 67 - n) * 4 = grownCap w n 0 67 * 4
 omega
set_option maxHeartbeats 2000000 in
set_option maxRecDepth 100000 in
theorem grow_calls (n : Nat) (hn : n ≤ 1000000) (w : World) : Calls Tryd.prog 93 #[.slice none 0 0, .int .i64 (n : Int)] w fun e w' => ∃ v, e = .returned v ∧ Room w w' v := by
 have HB := Aside0.mk (Below.refl w.heap.size w)
 by_cases h0 : n = 0
 ·subst h0
  go_enter Tryd.func93, Tryd.ntmps93
  go_wp2
  go_ret
  exact ⟨_, by simp [results, Tryd.results93, go_sem], Kd.R_nil _ _ _ _ _, HB.out⟩
 ·have d1 : decide ((n : Int) < 0) = false := decide_eq_false (by omega)
  have d2 : decide (0 < (n : Int)) = true := decide_eq_true (by omega)
  have d3 : decide (0 < n) = true := decide_eq_true (by omega)
  have hw : wrap64 (n : Int) = (n : Int) := by unfold wrap64; omega
  have H0 := Aside0.mk h0
  have HN := Aside0.mk hn
  have HW := Aside0.mk hw
  have d4 : decide (0 < wrap64 (n : Int)) = true := by rw [hw]; exact d2
  clear h0 hn hw
  go_enter Tryd.func93, Tryd.ntmps93
  go_wp2_with (at_builtin; refine wpList_append_made rfl (.tmp 20) (.tmp 21) rfl n rfl _ rfl HW.out (by have := H0.out; omega) HN.out ?_; intro c w1 hc hroom; have HR := Aside0.mk (hroom w (Nat.le_refl _) HB.out); have hc0 : (0 ≤ c) = True := eq_true (Nat.zero_le _); clear hroom)
  go_ret
  exact ⟨_, by simp [results, Tryd.results93, go_sem], HR.out⟩
end Go.Proofs.YthfhnkpipdbekaaDoor.Giv
