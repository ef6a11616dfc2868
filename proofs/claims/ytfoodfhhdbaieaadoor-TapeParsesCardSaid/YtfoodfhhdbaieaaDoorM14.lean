-- CUT by a program of this session: what the claim does not use is left out
import Derived.Test.YtfoodfhhdbaieaaDoorM8
import Derived.Test.YtfoodfhhdbaieaaDoorTxx1
import Derived.Lib.AppendStr
import Derived.Lib.ConvBytes
import Derived.Lib.SlBytesRow
namespace Go.Proofs.YtfoodfhhdbaieaaDoor.Giv
set_option maxRecDepth 100000
set_option linter.unusedVariables false
set_option linter.unusedSimpArgs false
open Go.RowKit Go.Shelf Go.Proofs.YtfoodfhhdbaieaaDoorW.PrintWords Go.Proofs.YtfoodfhhdbaieaaDoorW.PrintLast Go.Proofs.YtfoodfhhdbaieaaDoorW.PrintMore
theorem run_storeCells_atM (P : Program) (g o : Nat) (t : TypeId) (fz : Nat × Nat) : ∀ (vs : List Value) (i : Nat) (cur : Array Value) (w : World), w.heap[g]? = some (.cells cur t fz) → cur.size ≤ fz.1 → o + i + vs.length ≤ cur.size → (∀ v ∈ vs, v.oneCell' = true) →
  (storeCells ⟨g, o, none⟩ vs i).run P w = .ok () (w.setRow g (cur.toList.take (o + i) ++ vs ++ cur.toList.drop (o + i + vs.length)).toArray)
 | [], i, cur, w, hg, _, _, _ => by
  simp only [storeCells, List.append_nil, List.length_nil, Nat.add_zero, List.take_append_drop, Array.toArray_toList]
  rw [setRow_self w g cur t fz hg]
  rfl
 | v :: rest, i, cur, w, hg, hfz, hl, h1 => by
  have hi : o + i < cur.size := by simp at hl; omega
  have hadd : (⟨g, o, none⟩ : Addr).add i = ⟨g, o + i, none⟩ := by unfold Addr.add; split <;> simp_all
  have hcell : w.cell? ⟨g, o + i, none⟩ = some cur[o + i] := by simp [World.cell?, hg, hi]
  have hfro : w.frozen? ⟨g, o + i, none⟩ = false := by
   obtain ⟨lo, hi'⟩ := fz
   simp only [World.frozen?, hg, Bool.and_eq_false_iff, decide_eq_false_iff_not]
   left
   simp only at hfz
   omega
  have hst : (store ((⟨g, o, none⟩ : Addr).add i) v).run P w = .ok () (w.setRow g (cur.setIfInBounds (o + i) v)) := by
   rw [hadd, run_store P w _ v _ (h1 v (by simp)), hcell]
   simp [hfro, setCell_eq_setRow w g (o + i) cur t fz v hg]
  have ih := run_storeCells_atM P g o t fz rest (i + 1) (cur.setIfInBounds (o + i) v) (w.setRow g (cur.setIfInBounds (o + i) v)) (setRow_heap w g cur _ t _ hg) (by simpa using hfz) (by simp at hl ⊢; omega) (fun x hx => h1 x (by simp [hx]))
  simp only [storeCells, Sem.run_bind, hst, Result.andThen_ok, ih, setRow_setRow]
  congr 3
  have e := list_seg_step cur.toList (o + i) v rest (by simp at hl ⊢; omega)
  simpa [Array.toList_setIfInBounds, Nat.add_assoc] using e
structure OwnM (w0 w : World) (v : Value) (l : List UInt8) : Prop where
 row : ∃ g cap cur fz, v = .slice (some ⟨g, 0, none⟩) l.length cap ∧ w0.heap.size ≤ g ∧ w.heap[g]? = some (.cells cur 5 fz) ∧ (cur.size ≤ fz.1 ∨ fz = (0, 0)) ∧ l.length ≤ cap ∧ cap ≤ maxLen ∧ cur.size = cap ∧ cur.toList.take l.length = Lib.byteCells l
 below : Below w0.heap.size w0 w
theorem OwnM.later {w0 w W : World} {v : Value} {l : List UInt8} (h : OwnM w0 w v l) (hb : Below w.heap.size w W) : OwnM w0 W v l := by
 obtain ⟨g, cap, cur, fz, e, h1, h2, h3⟩ := h.row
 exact ⟨⟨g, cap, cur, fz, e, h1, (hb.block g (Array.getElem?_eq_some_iff.1 h2).1).trans h2, h3⟩, below_step h.below hb⟩
theorem str_bytes (s : ByteArray) : Lib.strCells s = Lib.byteCells s.data.toList := rfl
theorem byteCells_app (l m : List UInt8) : Lib.byteCells (l ++ m) = Lib.byteCells l ++ Lib.byteCells m := by simp [Lib.byteCells]
theorem info5 : ∃ i, Tryd.prog.info? 5 = some i ∧ i.zero = some (.int .u8 0) ∧ i.size = 1 ∧ i.bytes = 1 := by
 have h : (Tryd.prog.info? 5).map (fun i => (i.zero, i.size, i.bytes)) = some (some (.int .u8 0), 1, 1) := by kernel_rfl
 obtain ⟨i, hi, e⟩ := Option.map_eq_some_iff.1 h
 simp only [Prod.mk.injEq] at e
 exact ⟨i, hi, e.1, e.2.1, e.2.2⟩
structure Moved (w w' : World) (v v' : Value) : Prop where
 keep : ∀ k, k < w.heap.size → some k ≠ v.ownBlock → w'.heap[k]? = w.heap[k]?
 own : ∀ k, k < w.heap.size → some k ≠ v.ownBlock → some k ≠ v'.ownBlock
 size : w.heap.size ≤ w'.heap.size
theorem OwnM.lt {w0 w : World} {v : Value} {l : List UInt8} (h : OwnM w0 w v l) : ∀ k, some k = v.ownBlock → k < w.heap.size := by
 obtain ⟨g, cap, cur, fz, rfl, hg0, hg, _⟩ := h.row
 intro k hk
 simp [Value.ownBlock] at hk
 subst hk
 exact (Array.getElem?_eq_some_iff.1 hg).1
theorem OwnM.append {w0 w : World} {v : Value} {l : List UInt8} (h : OwnM w0 w v l) (s : ByteArray) (hl : l.length + s.size ≤ 1000000000) (ty : TypeId) :
  ∃ v' w', (Builtin.append_ #[51, 9] ty #[v, .string s]).run Tryd.prog w = .ok v' w' ∧ OwnM w0 w' v' (l ++ s.data.toList) ∧ Moved w w' v v' := by
 obtain ⟨⟨g, cap, cur, fz, rfl, hg0, hg, hfz, hlc, hcm, hcs, htake⟩, hB⟩ := h
 obtain ⟨i, hi, hz, hs1, hb1⟩ := info5
 have hss : s.data.toList.length = s.size := by rw [Array.length_toList]; rfl
 have hcl : (Lib.byteCells l).length = l.length := Lib.byteCells_length l
 by_cases hroom : l.length + s.size ≤ cap
 ·have hf := Lib.run_firstCells_string (P := Tryd.prog) w 1 s
  have hst : (storeCells ⟨g, l.length, none⟩ (Lib.strCells s) 0).run Tryd.prog w = .ok () (w.setRow g (cur.toList.take l.length ++ Lib.strCells s ++ cur.toList.drop (l.length + s.size)).toArray) := by
   rcases hfz with hf2 | rfl
   ·have := run_storeCells_atM Tryd.prog g l.length 5 fz (Lib.strCells s) 0 cur w hg hf2 (by rw [Lib.strCells_length]; omega) (Lib.strCells_oneCell s)
    simpa only [Nat.add_zero, Lib.strCells_length] using this
   ·have := run_storeCells_at Tryd.prog g l.length 5 (Lib.strCells s) 0 cur w hg (by rw [Lib.strCells_length]; omega) (Lib.strCells_oneCell s)
    simpa only [Nat.add_zero, Lib.strCells_length] using this
  refine ⟨_, _, by simp [Builtin.append_, run_underlying Tryd.underlying51, run_underlying Tryd.underlying9, sizeOf, typeInfo, hi, hs1, Builtin.lenOf, hroom, hf, Addr.add_lit, hst]; exact ⟨rfl, rfl⟩, ⟨⟨g, cap, _, fz, ?_, hg0, setRow_heap w g cur _ 5 fz hg, ?_, ?_, hcm, ?_, ?_⟩, ?_⟩, ⟨fun k _ hk => setRow_other w g k _ (fun e => hk (by simp [Value.ownBlock, e])), fun k _ hk => by simpa [Value.ownBlock] using hk, by simp⟩⟩
  ·rw [List.length_append, hss]
  ·refine hfz.imp (fun h => ?_) id
   simp only [List.size_toArray, List.length_append, List.length_take, List.length_drop, Array.length_toList, Lib.strCells_length]
   omega
  ·rw [List.length_append, hss]; exact hroom
  ·simp only [List.size_toArray, List.length_append, List.length_take, List.length_drop, Array.length_toList, Lib.strCells_length]
   omega
  ·rw [htake, byteCells_app, ← str_bytes, List.length_append, hss]
   have : (Lib.byteCells l ++ Lib.strCells s).length = l.length + s.size := by rw [List.length_append, hcl, Lib.strCells_length]
   rw [← this]
   show List.take _ (Lib.byteCells l ++ (Lib.strCells s ++ _)) = _
   rw [← List.append_assoc]; exact List.take_left
  ·refine ⟨hB.os, hB.tape, hB.output, ?_, fun k hk => ?_⟩
   ·simpa using hB.size
   ·rw [setRow_other w g k _ (fun e => by omega)]; exact hB.block k hk
 ·have holds : ∀ j u, (Lib.byteCells l)[j]? = some u → w.cell? ((⟨g, 0, none⟩ : Addr).add j) = some u := by
   intro j u hu
   have hadd : (⟨g, 0, none⟩ : Addr).add j = ⟨g, j, none⟩ := by unfold Addr.add; split <;> simp_all
   rw [← htake, List.getElem?_take] at hu
   split at hu
   ·rw [hadd]; simp only [World.cell?, hg]
    simpa using hu
   ·cases hu
  have hr := Lib.run_append_grow_string (P := Tryd.prog) w 51 9 ty 5 i (.int .u8 0) Tryd.underlying51 Tryd.underlying9 hi hz ⟨g, 0, none⟩ l.length cap (Lib.byteCells l) (by rw [hs1, hcl]; simp) holds s (by omega) (by omega) (by rw [hb1]; exact growslice_fits (by omega) (by omega))
  refine ⟨_, _, hr, ⟨⟨w.heap.size, _, _, (0, 0), ?_, hB.size, heap_alloc_new w.drew _, .inr rfl, ?_, grownCap_le_maxLen w (l.length + s.size) cap 5 (by unfold maxLen; omega), ?_, ?_⟩, below_alloc (below_drew hB) _⟩, ⟨fun k hk _ => heap_alloc_old w.drew _ hk, fun k hk _ => by simp [Value.ownBlock]; omega, by simp⟩⟩
  ·rw [List.length_append, hss]
  ·rw [List.length_append, hss]; exact grownCap_ge w (l.length + s.size) cap 5
  ·have hge := grownCap_ge w (l.length + s.size) cap 5
   have hz1 : (Value.int IntKind.u8 0).cells.size = 1 := rfl
   simp only [Array.size_append, List.size_toArray, size_zeroCells, hz1, hcl, Lib.strCells_length]
   omega
  ·rw [byteCells_app, ← str_bytes, List.length_append, hss]
   have : (Lib.byteCells l ++ Lib.strCells s).length = l.length + s.size := by rw [List.length_append, hcl, Lib.strCells_length]
   simp only [Array.toList_append, List.append_assoc]
   rw [← List.append_assoc, ← this]; exact List.take_left
theorem appM_event {ops : Array Oper} {rest : List Oper} {o : Oper} {a : Act} {Q : Exit → Act → World → Prop} {w0 w : World} {v : Value} {l : List UInt8} {s : ByteArray} (hgd : o.guard = none) (x y : Operand) (hop : o.op = Op.call { callee := Callee.builtin Builtin.append, args := #[x, y], argTypes := #[51, 9] }) (hx : a.eval x = v) (hy : a.eval y = .string s)
  (hO : OwnM w0 w v l) (hl : l.length + s.size ≤ 1000000000) (h : ∀ v' w', OwnM w0 w' v' (l ++ s.data.toList) → Moved w w' v v' → wpList Tryd.prog ops Q rest (a.put o.dst v') w') : wpList Tryd.prog ops Q (o :: rest) a w := by
 obtain ⟨v', w', hr, hO', hM⟩ := hO.append s hl o.type
 refine Kd.event_run hgd (w1 := w') (v := v') ?_ (h v' w' hO' hM)
 unfold execOp
 simp only [hop, resolve, invoke, builtin, Sem.run_bind, Sem.run_pure, Result.andThen_ok, List.map_toArray, List.map_cons, List.map_nil, hx, hy, hr]
theorem OwnM.text {w0 w : World} {v : Value} {l : List UInt8} (h : OwnM w0 w v l) : (convert 51 9 v).run Tryd.prog w = .ok (.string ⟨l.toArray⟩) w := by
 obtain ⟨g, cap, cur, fz, rfl, hg0, hg, hfz, hlc, hcm, hcs, htake⟩ := h.row
 have hsz : (⟨l.toArray⟩ : ByteArray).size = l.length := size_toArray l
 have hc : Lib.Bytes w g 0 ⟨l.toArray⟩ := fun i hi => by
  have hi' : i < l.length := by rw [← hsz]; exact hi
  have e : (Lib.byteCells l)[i]? = some (.int .u8 (l[i].toNat : Int)) := by simp [Lib.byteCells, hi']
  rw [← htake, List.getElem?_take] at e
  rw [if_pos hi'] at e
  simp only [World.cell?, hg, Nat.zero_add]
  have e' : cur[i]? = some (.int .u8 (l[i].toNat : Int)) := by simpa using e
  simp only [e']
  rfl
 have := Lib.run_convert_whole (P := Tryd.prog) w 51 5 9 Tryd.underlying51 Tryd.underlying5 Tryd.underlying9 g 0 ⟨l.toArray⟩ hc cap
 rwa [hsz] at this
end Go.Proofs.YtfoodfhhdbaieaaDoor.Giv
