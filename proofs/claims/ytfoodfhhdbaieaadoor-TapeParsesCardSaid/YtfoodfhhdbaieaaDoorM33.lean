-- CUT by a program of this session: what the claim does not use is left out
import Derived.Test.YtfoodfhhdbaieaaDoorM30
namespace Go.Proofs.YtfoodfhhdbaieaaDoor.Giv
set_option maxRecDepth 100000
set_option linter.unusedVariables false
set_option linter.unusedSimpArgs false
open Go.RowKit Go.Shelf Go.Proofs.YtfoodfhhdbaieaaDoorW.PrintWords Go.Proofs.YtfoodfhhdbaieaaDoorW.PrintLast Go.Proofs.YtfoodfhhdbaieaaDoorW.PrintMore
open Go.Proofs.YtfoodfhhdbaieaaDoor.Ka (S40 k40 z40 rd_T40 at_T40 k40_open k40_mk rd_L1 at_L1 info3 info38 info40)
def Keep3 (W W' : World) : Prop := ∀ (g : Nat) (cs : Array Value), W.heap[g]? = some (.cells cs 3 (0, 0)) → W'.heap[g]? = some (.cells cs 3 (0, 0))
theorem Keep3.trans {W W1 W2 : World} (h : Keep3 W W1) (k : Keep3 W1 W2) : Keep3 W W2 := fun g cs hc => k g cs (h g cs hc)
theorem Keep3.of_below {W W' : World} (h : Below W.heap.size W W') : Keep3 W W' := fun g cs hc => (h.block g (Array.getElem?_eq_some_iff.1 hc).1).trans hc
theorem Keep3.of_set {W : World} {b i : Nat} {v : Value} {cs : Array Value} {t : TypeId} {f : Nat × Nat} (h : W.heap[b]? = some (.cells cs t f)) (ht : t ≠ 3) : Keep3 W (W.setCell ⟨b, i, none⟩ v) := fun g c hc => by
 have hne : g ≠ b := fun e => by
  subst e
  rw [h] at hc
  cases hc
  exact ht rfl
 exact (Below.heap_setCell _ _ _ _ hne).trans hc
theorem Keep3.of_grown {W W' : World} {base e size n : Nat} {v : Value} {xs : List Value} (hO : W.ownsRow base e size v n xs) (he : e ≠ 3) (hg : W.grownBy W' v.ownBlock) : Keep3 W W' := fun g c hc => by
 refine (hg.block g (Array.getElem?_eq_some_iff.1 hc).1 (fun e' => ?_)).trans hc
 obtain ⟨cells, h2⟩ := own_typed hO g e'.symm
 rw [hc] at h2
 cases h2
 exact he rfl
def SlAt (W : World) (A : Option Addr) (c : Nat) (l : List Int) : Prop := l.length ≤ c ∧ l.length ≤ maxLen ∧ (0 < l.length → ∃ g o cs, A = some ⟨g, o, none⟩ ∧ W.heap[g]? = some (.cells cs 3 (0, 0)) ∧ ∀ j (h : j < l.length), cs[o + j]? = some (.int .i64 l[j]))
theorem SlAt.keep {W W' : World} {A : Option Addr} {c : Nat} {l : List Int} (h : SlAt W A c l) (k : Keep3 W W') : SlAt W' A c l := by
 refine ⟨h.1, h.2.1, fun h0 => ?_⟩
 obtain ⟨g, o, cs, e, h1, h2⟩ := h.2.2 h0
 exact ⟨g, o, cs, e, k g cs h1, h2⟩
theorem SlAt.C {W : World} {A : Option Addr} {c : Nat} {l : List Int} (h : SlAt W A c l) : Kd.C (Kd.int .i64) W A l.length l := by
 refine ⟨rfl, by have := h.2.1; unfold maxLen at this; omega, fun h0 => ?_⟩
 obtain ⟨g, o, cs, e, h1, h2⟩ := h.2.2 h0
 refine ⟨_, e, fun j p hj => ⟨[.int .i64 p], rfl, rfl, fun i u hu => ?_⟩⟩
 obtain ⟨hj1, hj2⟩ := List.getElem?_eq_some_iff.1 hj
 match i, hu with
 | 0, hu =>
  injection hu with hu
  subst hu
  rw [show (⟨g, o, none⟩ : Addr).add (j * (Kd.int .i64).sz + 0) = ⟨g, o + j, none⟩ by
   show (⟨g, o, none⟩ : Addr).add (j * 1 + 0) = _
   unfold Addr.add; simp only [Nat.mul_one, Nat.add_zero]; split <;> simp_all]
  rw [Lib.cell_of_heap h1, ← hj2]
  exact h2 j hj1
theorem SlAt.of_own {W : World} {base g cap c o k : Nat} {l : List Int} (h : W.ownsRow base 3 1 (.slice (some ⟨g, 0, none⟩) l.length cap) l.length (l.map (Value.int .i64))) (hk : k ≤ c) (hl : o + k ≤ l.length) (hm : l.length ≤ maxLen) : SlAt W (some ⟨g, o, none⟩) c ((l.drop o).take k) := by
 have hlen : ((l.drop o).take k).length = k := by simp; omega
 refine ⟨by omega, by omega, fun h0 => ?_⟩
 obtain ⟨_, ⟨h2, _⟩ | ⟨g', cap', cur, e, hg, hh, h3, h4, h5, h6⟩⟩ := h
 ·cases h2
 ·injection e with e1 e2 e3
  injection e1 with e1
  injection e1 with e1 _ _
  subst e1
  refine ⟨g, o, cur, rfl, hh, fun j hj => ?_⟩
  have e : (cur.toList.take (l.length * 1))[o + j]? = (l.map (Value.int .i64))[o + j]? := by rw [h6]
  rw [List.getElem?_take_of_lt (by omega)] at e
  rw [Array.getElem?_toList] at e
  rw [e]
  simp [show o + j < l.length by omega]
def RlAt (W : World) (r : S40) (cs : List Value) : Prop := ∃ A1 c1 A3 c3 A4 c4, cs = [.int .i64 r.f0, .slice A1 r.f1.length c1, .int .i64 r.f2, .slice A3 r.f3.length c3, .slice A4 r.f4.length c4] ∧ SlAt W A1 c1 r.f1 ∧ SlAt W A3 c3 r.f3 ∧ SlAt W A4 c4 r.f4
theorem RlAt.keep {W W' : World} {r : S40} {cs : List Value} (h : RlAt W r cs) (k : Keep3 W W') : RlAt W' r cs := by
 obtain ⟨A1, c1, A3, c3, A4, c4, e, h1, h3, h4⟩ := h
 exact ⟨A1, c1, A3, c3, A4, c4, e, h1.keep k, h3.keep k, h4.keep k⟩
theorem RlAt.len {W : World} {r : S40} {cs : List Value} (h : RlAt W r cs) : cs.length = 5 := by
 obtain ⟨A1, c1, A3, c3, A4, c4, e, _⟩ := h; rw [e]; rfl
def AllAt (W : World) (rs : List S40) (css : List (List Value)) : Prop := css.length = rs.length ∧ ∀ j (h : j < rs.length) (h' : j < css.length), RlAt W rs[j] css[j]
theorem AllAt.keep {W W' : World} {rs : List S40} {css : List (List Value)} (h : AllAt W rs css) (k : Keep3 W W') : AllAt W' rs css := ⟨h.1, fun j h1 h2 => (h.2 j h1 h2).keep k⟩
theorem AllAt.push {W : World} {rs : List S40} {css : List (List Value)} {r : S40} {cs : List Value} (h : AllAt W rs css) (k : RlAt W r cs) : AllAt W (rs ++ [r]) (css ++ [cs]) := by
 refine ⟨by simp [h.1], fun j h1 h2 => ?_⟩
 by_cases hj : j < rs.length
 ·rw [List.getElem_append_left hj, List.getElem_append_left (by rw [h.1]; exact hj)]
  exact h.2 j hj _
 ·have e : j = rs.length := by simp at h1; omega
  subst e
  simp only [List.getElem_append_right (Nat.le_refl _), Nat.sub_self, List.getElem_cons_zero]
  rw [List.getElem_append_right (by rw [h.1]; exact Nat.le_refl _)]
  simp only [h.1, Nat.sub_self, List.getElem_cons_zero]
  exact k
theorem flat5 : ∀ (css : List (List Value)), (∀ cs ∈ css, cs.length = 5) → ∀ j i (hj : j < css.length), i < 5 → css.flatten[j * 5 + i]? = css[j][i]?
 | [], _, j, i, hj, _ => by simp at hj
 | cs :: css, h, j, i, hj, hi => by
  have h0 := h cs List.mem_cons_self
  cases j with
  | zero =>
   rw [List.flatten_cons, List.getElem?_append_left (by omega)]
   simp
  | succ j =>
   rw [List.flatten_cons, List.getElem?_append_right (by omega), h0, show (j + 1) * 5 + i - 5 = j * 5 + i by omega, flat5 css (fun c hc => h c (List.mem_cons_of_mem _ hc)) j i (by simpa using hj) hi]
   simp
theorem AllAt.mem {W : World} {rs : List S40} {css : List (List Value)} (h : AllAt W rs css) : ∀ cs ∈ css, cs.length = 5 := by
 intro cs hc
 obtain ⟨j, hj, rfl⟩ := List.getElem_of_mem hc
 exact (h.2 j (by rw [← h.1]; exact hj) hj).len
def RowsAt (W : World) (base : Nat) (v : Value) (rs : List S40) : Prop := ∃ css, W.ownsRow base 40 5 v rs.length css.flatten ∧ AllAt W rs css
theorem RowsAt.C {W : World} {base : Nat} {A : Option Addr} {n c : Nat} {rs : List S40} (h : RowsAt W base (.slice A n c) rs) : n = rs.length ∧ n ≤ c ∧ Kd.C k40 W A rs.length rs := by
 obtain ⟨css, ho, ha⟩ := h
 obtain ⟨_, ⟨h2, h3⟩ | ⟨g, cap, cur, e, hg, hh, h3, h4, h5, h6⟩⟩ := ho
 ·injection h2 with e1 e2 e3
  subst e1; subst e2; subst e3
  exact ⟨h3.symm, Nat.le_refl _, ⟨rfl, by omega, fun h0 => by omega⟩⟩
 ·injection e with e1 e2 e3
  subst e1; subst e2; subst e3
  refine ⟨rfl, h3, ⟨rfl, by unfold maxLen at h4; omega, fun _ => ⟨_, rfl, fun j p hj => ?_⟩⟩⟩
  obtain ⟨hj1, hj2⟩ := List.getElem?_eq_some_iff.1 hj
  have hj3 : j < css.length := by rw [ha.1]; exact hj1
  have hr := ha.2 j hj1 hj3
  rw [hj2] at hr
  refine ⟨css[j], hr.len, ?_, fun i u hu => ?_⟩
  ·obtain ⟨A1, c1, A3, c3, A4, c4, e, k1, k3, k4⟩ := hr
   rw [e]
   exact k40_mk W p k1.1 k1.C k3.1 k3.C k4.1 k4.C
  ·have hi : i < 5 := by have := (List.getElem?_eq_some_iff.1 hu).1; have := hr.len; omega
   have hf := flat5 css ha.mem j i hj3 hi
   rw [hu, ← h6, List.getElem?_take_of_lt (by omega), Array.getElem?_toList] at hf
   rw [show (⟨g, 0, none⟩ : Addr).add (j * k40.sz + i) = ⟨g, j * 5 + i, none⟩ by
    show (⟨g, 0, none⟩ : Addr).add (j * 5 + i) = _
    unfold Addr.add; simp only [Nat.zero_add]; split <;> simp_all]
   rw [Lib.cell_of_heap hh]
   exact hf
theorem RowsAt.nil (W : World) (base : Nat) : RowsAt W base (.slice none 0 0) [] := ⟨[], World.ownsRow_nil _ _ _ _, rfl, fun j h => by simp at h⟩
theorem RowsAt.below {W W' : World} {base : Nat} {v : Value} {rs : List S40} (h : RowsAt W base v rs) (hb : Below W.heap.size W W') : RowsAt W' base v rs := by
 obtain ⟨css, h1, h2⟩ := h
 exact ⟨css, pw_own_below h1 hb, h2.keep (Keep3.of_below hb)⟩
end Go.Proofs.YtfoodfhhdbaieaaDoor.Giv
-- CUT by a program of this session: what the claim does not use is left out
namespace Go.Proofs.YtfoodfhhdbaieaaDoor.Giv
set_option maxRecDepth 100000
set_option linter.unusedVariables false
set_option linter.unusedSimpArgs false
open Go.RowKit Go.Shelf Go.Proofs.YtfoodfhhdbaieaaDoorW.PrintWords Go.Proofs.YtfoodfhhdbaieaaDoorW.PrintLast Go.Proofs.YtfoodfhhdbaieaaDoorW.PrintMore
open Go.Proofs.YtfoodfhhdbaieaaDoor.Ka (S40 k40 z40 rd_T40 at_T40 k40_open k40_mk rd_L1 at_L1 info3 info38 info40)
theorem exec_buildR {o : Oper} {a : Act} {W : World} {s : Operand} {x0 x2 : Int} {A1 A3 A4 : Option Addr} {n1 n3 n4 c1 c3 c4 : Nat} (hop : o.op = Op.buildSlice 22 1 #[(0, s)]) (hs : a.eval s = .agg #[.int .i64 x0, .slice A1 n1 c1, .int .i64 x2, .slice A3 n3 c3, .slice A4 n4 c4]) :
  (execOp a.eval o).run Tryd.prog W = .ok (.value (.slice (some ⟨W.heap.size, 0, none⟩) 1 1)) (W.alloc (.cells #[.int .i64 x0, .slice A1 n1 c1, .int .i64 x2, .slice A3 n3 c3, .slice A4 n4 c4] 40)) := by
 obtain ⟨i, hi, hzz⟩ := Option.map_eq_some_iff.1 info40
 simp only [Prod.mk.injEq] at hzz
 obtain ⟨z1, z2, z3⟩ := hzz
 unfold execOp
 simp [hop, hs, Instr.buildSlice, run_underlying Tryd.underlying22, sizeOf, typeInfo, zeroValue, hi, z1, z2, Instr.fill, newRow, Builtin.zeroCells, Value.cells, Result.andThen]
 congr 2
 apply Array.ext'
 simp [List.range, List.range.loop]
theorem append_rule_ev {ops : Array Oper} {o : Oper} {a : Act} {Q : Exit → Act → World → Prop} {Kc : Act → World → Prop} {W : World} {base n c g : Nat} {A : Option Addr} {xs : List Value} {c0 c1 c2 c3 c4 : Value} {s x : Tmp}
  (hw : Region.wanted o (yielded ops a.tmps) = true) (hop : o.op = Op.call { callee := Callee.builtin Builtin.append, args := #[.tmp s, .tmp x], argTypes := #[22, 22] })
  (hs : a.eval (.tmp s) = .slice A n c) (hx : a.eval (.tmp x) = .slice (some ⟨g, 0, none⟩) 1 1) (ho : W.ownsRow base 40 5 (.slice A n c) n xs) (hg : W.heap[g]? = some (.cells #[c0, c1, c2, c3, c4] 40 (0, 0)))
  (h1 : ∀ u ∈ [c0, c1, c2, c3, c4], u.oneCell' = true) (hn : n ≤ 1000000) (hbase : base ≤ W.heap.size)
  (h : ∀ v' w', w'.ownsRow base 40 5 v' (n + 1) (xs ++ [c0, c1, c2, c3, c4]) → W.grownBy w' (Value.slice A n c).ownBlock → Kc (a.put o.dst v') w') : if Region.wanted o (yielded ops a.tmps) = true then Oper.wp Tryd.prog o a W Kc Q else Kc (a.put o.dst undef) W := by
 rw [if_pos hw]
 obtain ⟨i, hi, hzz⟩ := Option.map_eq_some_iff.1 info40
 simp only [Prod.mk.injEq] at hzz
 obtain ⟨z1, z2, z3⟩ := hzz
 refine wp_append_own W (.tmp s) (.tmp x) 22 hop base 40 i _ 5 88 Tryd.underlying22 hi z1 z2 z3 rfl (by decide) _ n xs hs ho ⟨g, 0, none⟩ 1 1 [c0, c1, c2, c3, c4] hx rfl ?_ h1 (by unfold maxLen; omega) (by omega) hbase (fun v' w' q1 q2 _ => h v' w' q1 q2)
 intro j u hj
 rw [show (⟨g, 0, none⟩ : Addr).add j = ⟨g, j, none⟩ by unfold Addr.add; split <;> simp_all, Lib.cell_of_heap hg]
 simpa using hj
end Go.Proofs.YtfoodfhhdbaieaaDoor.Giv
