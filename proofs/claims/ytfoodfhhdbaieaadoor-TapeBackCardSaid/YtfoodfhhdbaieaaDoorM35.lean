-- CUT by a program of this session: what the claim does not use is left out
import Derived.Test.YtfoodfhhdbaieaaDoorM33
namespace Go.Proofs.YtfoodfhhdbaieaaDoor.Giv
set_option maxRecDepth 100000
set_option linter.unusedVariables false
set_option linter.unusedSimpArgs false
open Go.RowKit Go.Shelf Go.Proofs.YtfoodfhhdbaieaaDoorW.PrintWords Go.Proofs.YtfoodfhhdbaieaaDoorW.PrintLast Go.Proofs.YtfoodfhhdbaieaaDoorW.PrintMore
open Go.Proofs.YtfoodfhhdbaieaaDoor.Ka (S40 k40 z40 rd_T40 at_T40 k40_open k40_mk rd_L1 at_L1 info3 info38 info40)
theorem exec_buildR {o : Oper} {a : Act} {W : World} {s : Operand} {x0 x2 : Int} {A1 A3 A4 : Option Addr} {n1 n3 n4 c1 c3 c4 : Nat} (hop : o.op = Op.buildSlice 22 1 #[(0, s)]) (hs : a.eval s = .agg #[.int .i64 x0, .slice A1 n1 c1, .int .i64 x2, .slice A3 n3 c3, .slice A4 n4 c4]) :
  (execOp a.eval o).run Tryd.prog W = .ok (.value (.slice (some ⟨W.heap.size, 0, none⟩) 1 1)) (W.alloc (.cells #[.int .i64 x0, .slice A1 n1 c1, .int .i64 x2, .slice A3 n3 c3, .slice A4 n4 c4] 40)) := by
 obtain ⟨i, hi, hzz⟩ := Option.map_eq_some_iff.1 info40
 simp only [Prod.mk.injEq] at hzz
 obtain ⟨z1, z2, z3⟩ := hzz
 unfold execOp
 simp [hop, hs, Instr.buildSlice, run_underlying Tryd.underlying22, sizeOf, typeInfo, zeroValue, hi, z1, z2, Instr.fill, newRow, Builtin.zeroCells, Value.cells, Result.andThen]
 congr 2
 apply Array.ext'
 simp [List.range, List.range.loop]
theorem append_rule_ev {ops : Array Oper} {o : Oper} {a : Act} {Q : Exit → Act → World → Prop} {Kc : Act → World → Prop} {W : World} {base n c g : Nat} {A : Option Addr} {xs : List Value} {c0 c1 c2 c3 c4 : Value} {s x : Tmp}
  (hw : Region.wanted o (yielded ops a.tmps) = true) (hop : o.op = Op.call { callee := Callee.builtin Builtin.append, args := #[.tmp s, .tmp x], argTypes := #[22, 22] })
  (hs : a.eval (.tmp s) = .slice A n c) (hx : a.eval (.tmp x) = .slice (some ⟨g, 0, none⟩) 1 1) (ho : W.ownsRow base 40 5 (.slice A n c) n xs) (hg : W.heap[g]? = some (.cells #[c0, c1, c2, c3, c4] 40 (0, 0)))
  (h1 : ∀ u ∈ [c0, c1, c2, c3, c4], u.oneCell' = true) (hn : n ≤ 1000000) (hbase : base ≤ W.heap.size)
  (h : ∀ v' w', w'.ownsRow base 40 5 v' (n + 1) (xs ++ [c0, c1, c2, c3, c4]) → W.grownBy w' (Value.slice A n c).ownBlock → Kc (a.put o.dst v') w') : if Region.wanted o (yielded ops a.tmps) = true then Oper.wp Tryd.prog o a W Kc Q else Kc (a.put o.dst undef) W := by
 rw [if_pos hw]
 obtain ⟨i, hi, hzz⟩ := Option.map_eq_some_iff.1 info40
 simp only [Prod.mk.injEq] at hzz
 obtain ⟨z1, z2, z3⟩ := hzz
 refine wp_append_own W (.tmp s) (.tmp x) 22 hop base 40 i _ 5 88 Tryd.underlying22 hi z1 z2 z3 rfl (by decide) _ n xs hs ho ⟨g, 0, none⟩ 1 1 [c0, c1, c2, c3, c4] hx rfl ?_ h1 (by unfold maxLen; omega) (by omega) hbase (fun v' w' q1 q2 _ => h v' w' q1 q2)
 intro j u hj
 rw [show (⟨g, 0, none⟩ : Addr).add j = ⟨g, j, none⟩ by unfold Addr.add; split <;> simp_all, Lib.cell_of_heap hg]
 simpa using hj
end Go.Proofs.YtfoodfhhdbaieaaDoor.Giv
