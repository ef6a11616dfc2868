-- CUT by a program of this session: what the claim does not use is left out
import Derived.Test.YtfoodfhhdbaieaaDoorT18
import Derived.Test.YtfoodfhhdbaieaaDoorWAll
namespace Go.Proofs.YtfoodfhhdbaieaaDoor.Giv
set_option maxRecDepth 100000
set_option linter.unusedSimpArgs false
set_option linter.unusedVariables false
open Go.RowKit Go.Shelf Go.Proofs.YtfoodfhhdbaieaaDoorW.PrintWords Go.Proofs.YtfoodfhhdbaieaaDoorW.PrintLast Go.Proofs.YtfoodfhhdbaieaaDoorW.PrintMore
open Go.Proofs.YtfoodfhhdbaieaaDoor.Ka (S40 k40 z40 rd_T40 at_T40 k40_open k40_mk rd_L1 at_L1 info3 info38 info40)

section
variable {P : Program} {md : Region.Mode} {ops : Array Oper} {Q : Exit → Act → World → Prop} {S : World → Prop} {ds : List Nat}
theorem inv_ (I : Nat → Array Bool → Act → World → Prop) (fuel0 : Nat) (hS : ∀ k l a w, I k l a w → S w) (hend : ∀ l a w, I 0 l a w → wpAnyLast P md ops Q S ds fuel0 l a w)
  (hstep : ∀ k l a w, I (k + 1) l a w → Region.ready md ops l ≠ [] ∧ ∀ i ∈ Region.ready md ops l, i ∉ ds ∧ ∃ oi, ops[i]? = some oi ∧ ∀ K : Act → World → Prop, (∀ a' w', I k (l.setIfInBounds i true) a' w' → K a' w') → if Region.wanted oi (yielded ops a.tmps) = true then Oper.wp P oi a w K Q else K (a.put oi.dst undef) w) :
  ∀ k l a w, I k l a w → wpAnyLast P md ops Q S ds (fuel0 + k) l a w
 | 0, l, a, w, h => hend l a w h
 | k + 1, l, a, w, h => by
  obtain ⟨h1, h2⟩ := hstep k l a w h
  refine wpAnyLast_ready (fuel := fuel0 + k) rfl h1 (fun i hi => ?_)
  obtain ⟨hd, oi, ho, hK⟩ := h2 i hi
  exact AllReadyL.cons (rs := []) ho hd (fun K' hK' => hK K' (fun a' w' hI => hK'.out _ _ (hS _ _ _ _ hI) (fun _ => inv_ I fuel0 hS hend hstep k _ _ _ hI))) AllReadyL.nil i (List.mem_singleton_self i)
end
theorem build0 (W : World) : (Instr.buildSlice 38 0 #[]).run Tryd.prog W = .ok (.slice (some ⟨W.heap.size, 0, none⟩) 0 0) (W.alloc (.cells #[] 3)) := by
 obtain ⟨i, hi, hzz⟩ := Option.map_eq_some_iff.1 info3
 simp [Instr.buildSlice, run_underlying Tryd.underlying38, sizeOf, typeInfo, hi, Instr.fill, newRow]
 congr 2
 apply Array.ext'
 simp
theorem row_cells {W : World} {A : Option Addr} {l : List Int} (hC : Kd.C (Kd.int .i64) W A l.length l) (hp : 0 < l.length) : ∃ ad, A = some ad ∧ ∀ (j : Nat) (u : Value), (l.map (Value.int .i64))[j]? = some u → W.cell? (ad.add j) = some u := by
 obtain ⟨ad, e, _⟩ := Kd.at_int hC 0 (by omega) (by omega)
 refine ⟨ad, e, fun j u hj => ?_⟩
 rw [List.getElem?_map, Option.map_eq_some_iff] at hj
 obtain ⟨x, hx, rfl⟩ := hj
 have hl := (List.getElem?_eq_some_iff.1 hx).1
 obtain ⟨ad', e', hc⟩ := Kd.at_int hC (j : Int) (by omega) (by omega)
 rw [e] at e'
 injection e' with e'
 subst e'
 have : rd l (j : Int) = x := by simp [rd, List.getD_eq_getElem?_getD, hx]
 rw [this] at hc
 simpa using hc
theorem app_row (ty : TypeId) {W : World} {base g c : Nat} {A : Option Addr} {l : List Int} (hu : W.ownsRow base 3 1 (.slice (some ⟨g, 0, none⟩) 0 0) 0 []) (hbase : base ≤ W.heap.size) (hC : Kd.C (Kd.int .i64) W A l.length l) (hl : l.length ≤ 1000000) :
  ∃ B cb W', (Builtin.append_ #[38, 38] ty #[.slice (some ⟨g, 0, none⟩) 0 0, .slice A l.length c]).run Tryd.prog W = .ok (.slice B l.length cb) W' ∧ W'.ownsRow base 3 1 (.slice B l.length cb) l.length (l.map (Value.int .i64)) ∧ Below W.heap.size W W' := by
 obtain ⟨i, hi, hzz⟩ := Option.map_eq_some_iff.1 info3
 obtain ⟨h3, h4, h5⟩ : i.zero = some (.int .i64 0) ∧ i.size = 1 ∧ i.bytes = 8 := by
  injection hzz with e1 e2; injection e2 with e2 e3; exact ⟨e1, e2, e3⟩
 rcases Nat.eq_zero_or_pos l.length with h0 | hp
 ·have hl0 : l = [] := List.eq_nil_of_length_eq_zero h0
  subst hl0
  refine ⟨some ⟨g, 0, none⟩, 0, W, ?_, hu, Below.refl _ _⟩
  cases A <;> simp [Builtin.append_, run_underlying Tryd.underlying38, sizeOf, typeInfo, hi, Builtin.lenOf, Builtin.firstCells, storeCells, loadCells, loadCellsFrom]
 ·obtain ⟨ad, rfl, hnews⟩ := row_cells hC hp
  obtain ⟨v', w', hr, r1, _, _, _⟩ := run_append_own_at (P := Tryd.prog) W base 38 ty 3 i (.int .i64 0) 1 8 Tryd.underlying38 hi h3 h4 h5 rfl (by decide) _ 0 [] hu ad l.length c (l.map (Value.int .i64)) (by simp) hnews (by intro u hu; obtain ⟨x, _, rfl⟩ := List.mem_map.1 hu; rfl) (by unfold maxLen; omega) (by omega) hbase
  have hg := run_append_grow (P := Tryd.prog) W 38 ty 3 i (.int .i64 0) Tryd.underlying38 hi h3 ⟨g, 0, none⟩ 0 0 [] (by simp) (by intro j v h; cases h) ad l.length c (l.map (Value.int .i64)) (by simp [h4]) hnews (by omega) (by omega) (by rw [h5]; unfold Builtin.nextslicecap; rw [if_pos (by omega)]; omega)
  rw [hr] at hg
  injection hg with e1 e2
  subst e1
  subst e2
  simp only [Nat.zero_add, List.nil_append] at r1 hr
  exact ⟨_, _, _, hr, r1, ((Below.refl W.heap.size W).drew).alloc (by simp) _⟩
end Go.Proofs.YtfoodfhhdbaieaaDoor.Giv
