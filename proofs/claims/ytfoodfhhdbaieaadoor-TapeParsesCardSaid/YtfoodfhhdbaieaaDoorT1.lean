-- CUT by a program of this session: what the claim does not use is left out
import Derived.Test.YtfoodfhhdbaieaaDoorProg
import Derived.Below
import Derived.WalkKit
import Derived.Outline
import Derived.Deep.LoopGhost
import Derived.Deep.QuietTactic
import Derived.BigQuiet
import Derived.RowKit3
import Derived.RowKit
import Derived.Laws.CopyOwn
import Derived.MapKept
import Derived.OwnWalk
import Derived.WalkSpells
import Derived.Test.YtfoodfhhdbaieaaDoorWAll
import Derived.Test.YtfoodfhhdbaieaaDoorKax0
namespace Go.Proofs.YtfoodfhhdbaieaaDoor.Giv
set_option maxRecDepth 100000
set_option linter.unusedVariables false
set_option linter.unusedSimpArgs false
open Go.RowKit Go.Proofs.YtfoodfhhdbaieaaDoorW.PrintWords Go.Proofs.YtfoodfhhdbaieaaDoorW.PrintLast Go.Proofs.YtfoodfhhdbaieaaDoorW.PrintMore
open Go.Proofs.YtfoodfhhdbaieaaDoor.Ka (S40 k40 z40 rd_T40 at_T40 k40_open k40_mk rd_L1 at_L1 info3 info38 info40)

def keyL (s : Int) (l : List Int) : List Int := [s, rd l 0, rd l 1, rd l 2]
def keyV (s : Int) (l : List Int) : Value := .agg #[.int .i64 s, .int .i64 (rd l 0), .int .i64 (rd l 1), .int .i64 (rd l 2)]

theorem splice_key (s : Int) (l : List Int) (hl : l.length ≤ 3) : splice [Value.int .i64 s, .int .i64 0, .int .i64 0, .int .i64 0] 1 (l.map (Value.int .i64)) = [.int .i64 s, .int .i64 (rd l 0), .int .i64 (rd l 1), .int .i64 (rd l 2)] := by
 match l, hl with
 | [], _ => rfl
 | [a], _ => rfl
 | [a, b], _ => rfl
 | [a, b, c], _ => rfl
 | _ :: _ :: _ :: _ :: _, h => simp at h
theorem C_cells {w : World} {A : Option Addr} {n : Nat} {l : List Int} (h : Kd.C (Kd.int .i64) w A n l) : l.length = n ∧ (0 < n → ∃ ad, A = some ad ∧ ∀ j v, (l.map (Value.int .i64))[j]? = some v → w.cell? (ad.add j) = some v) := by
 refine ⟨h.1, fun h0 => ?_⟩
 obtain ⟨ad, e, hc⟩ := h.2.2 h0
 refine ⟨ad, e, fun j v hj => ?_⟩
 rw [List.getElem?_map] at hj
 obtain ⟨p, hp, rfl⟩ := Option.map_eq_some_iff.1 hj
 obtain ⟨c, hc1, hc2, hc3⟩ := hc j p hp
 have := hc3 0 (.int .i64 p) (by rw [show c = [.int .i64 p] from hc2]; rfl)
 simpa [Kd.int, Kd.scalar] using this
theorem alloc2_new (w : World) (o o' : Obj) : ((w.alloc o).alloc o').heap[w.heap.size + 1]? = some o' := by
 have := heap_alloc_new (w.alloc o) o'
 simpa using this
theorem keyOf_calls (s : Int) (A : Option Addr) (c : Nat) (l : List Int) (w : World) (hl : l.length ≤ 3) (hC : Kd.C (Kd.int .i64) w A l.length l) :
  Calls Tryd.prog 24 #[.int .i64 s, .slice A l.length c] w fun e w' => e = .returned (keyV s l) ∧ Below w.heap.size w w' := by
 have HC := Aside0.mk hC
 have HL := Aside0.mk hl
 clear hC hl
 go_enter Tryd.func24, Tryd.ntmps24
 go_wp2_with ((with_reducible refine gate_dst (N := 11) rfl ?_); go_must (refine wpList_copy_splice rfl (.tmp 9) (.tmp 10) 38 38 rfl 3 Tryd.underlying38 (by kernel_rfl) _ _ 3 3 l.length c rfl rfl (w.heap.size + 1) 1 [.int .i64 s, .int .i64 0, .int .i64 0, .int .i64 0] 58 (alloc2_new _ _ _) (l.map (Value.int .i64)) ?hn ?hpos ?hfit ?h1 (w.heap.size + 1) (w.alloc (Obj.cells #[Value.int IntKind.i64 0, Value.int IntKind.i64 0, Value.int IntKind.i64 0, Value.int IntKind.i64 0] 58)) ((Below.refl _ _).alloc (by simp) _) (Nat.le_refl _) ?_))
 case hn => rw [List.length_map]; exact (Nat.min_eq_left HL.out).symm
 case hpos =>
  intro h0
  have hb : Below w.heap.size w ((w.alloc (Obj.cells #[Value.int IntKind.i64 0, Value.int IntKind.i64 0, Value.int IntKind.i64 0, Value.int IntKind.i64 0] 58)).alloc (Obj.cells #[Value.int IntKind.i64 s, Value.int IntKind.i64 0, Value.int IntKind.i64 0, Value.int IntKind.i64 0] 58)) := ((Below.refl _ _).alloc (Nat.le_refl _) _).alloc (by simp) _
  obtain ⟨ad, e, hc⟩ := (C_cells (Kd.C_below HC.out hb)).2 (by simpa using h0)
  exact ⟨ad, e, fun j a hj => hc j _ (by rw [List.getElem?_map, hj]; rfl)⟩
 case hfit => have := HL.out; simp; omega
 case h1 => intro v hv; obtain ⟨x, _, rfl⟩ := List.mem_map.1 hv; rfl
 intro w1 hg hb
 have hg1 := hg.out
 rw [splice_key s l HL.out] at hg1
 have c0 : w1.cell? ⟨w.heap.size + 1, 0, none⟩ = some (.int .i64 s) := by simp [World.cell?, hg1]
 have c1 : w1.cell? ⟨w.heap.size + 1, 1, none⟩ = some (.int .i64 (rd l 0)) := by simp [World.cell?, hg1]
 have c2 : w1.cell? ⟨w.heap.size + 1, 2, none⟩ = some (.int .i64 (rd l 1)) := by simp [World.cell?, hg1]
 have c3 : w1.cell? ⟨w.heap.size + 1, 3, none⟩ = some (.int .i64 (rd l 2)) := by simp [World.cell?, hg1]
 have hz : w.heap.size + 1 < w1.heap.size := by have := (Array.getElem?_eq_some_iff.1 hg1).1; omega
 have hk : w1.heap[w.heap.size]? = some (Obj.cells #[Value.int IntKind.i64 0, Value.int IntKind.i64 0, Value.int IntKind.i64 0, Value.int IntKind.i64 0] 58) := (hb.block _ (by omega)).trans (heap_alloc_new _ _)
 have d0 : w1.cell? ⟨w.heap.size, 0, none⟩ = some (.int .i64 0) := by simp [World.cell?, hk]
 have d1 : w1.cell? ⟨w.heap.size, 1, none⟩ = some (.int .i64 0) := by simp [World.cell?, hk]
 have d2 : w1.cell? ⟨w.heap.size, 2, none⟩ = some (.int .i64 0) := by simp [World.cell?, hk]
 have d3 : w1.cell? ⟨w.heap.size, 3, none⟩ = some (.int .i64 0) := by simp [World.cell?, hk]
 have z0 : w1.frozen? ⟨w.heap.size, 0, none⟩ = false := by simp [World.frozen?, hk]
 have z1 : w1.frozen? ⟨w.heap.size, 1, none⟩ = false := by simp [World.frozen?, hk]
 have z2 : w1.frozen? ⟨w.heap.size, 2, none⟩ = false := by simp [World.frozen?, hk]
 have z3 : w1.frozen? ⟨w.heap.size, 3, none⟩ = false := by simp [World.frozen?, hk]
 have HB := Aside0.mk hb
 clear hg hg1 hk hb
 go_wp2
 refine bodyPost_ret (v := keyV s l) (by simp [results, Tryd.results24, go_sem, d0, d1, d2, d3, hz]; try rfl) rfl ⟨rfl, ?_⟩
 have h0 : Below w.heap.size w w1 := ((Below.refl _ _).alloc (Nat.le_refl _) _).trans (HB.out.mono (by omega))
 exact (((h0.setCell (Nat.le_refl _) _).setCell (Nat.le_refl _) _).setCell (Nat.le_refl _) _).setCell (Nat.le_refl _) _
theorem keyOf_agg (s : Int) (A : Option Addr) (c : Nat) (l : List Int) (w : World) (hl : l.length ≤ 3) (hC : Kd.C (Kd.int .i64) w A l.length l) :
  Calls Tryd.prog 24 #[.int .i64 s, .slice A l.length c] w fun e w' => e = .returned (.agg #[.int .i64 s, .int .i64 (rd l 0), .int .i64 (rd l 1), .int .i64 (rd l 2)]) ∧ Below w.heap.size w w' := keyOf_calls s A c l w hl hC
end Go.Proofs.YtfoodfhhdbaieaaDoor.Giv
