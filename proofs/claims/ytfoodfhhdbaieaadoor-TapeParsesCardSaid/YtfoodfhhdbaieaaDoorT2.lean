-- CUT by a program of this session: what the claim does not use is left out
import Derived.Test.YtfoodfhhdbaieaaDoorT1
import Derived.WideMake
import Derived.DeepKeys4
import Derived.Maps.Own
namespace Go.Proofs.YtfoodfhhdbaieaaDoor.Giv
set_option maxRecDepth 100000
set_option linter.unusedVariables false
set_option linter.unusedSimpArgs false
open Go.RowKit Go.Proofs.YtfoodfhhdbaieaaDoorW.PrintWords Go.Proofs.YtfoodfhhdbaieaaDoorW.PrintLast Go.Proofs.YtfoodfhhdbaieaaDoorW.PrintMore

theorem laidOut : laidOutB Tryd.prog = true := by kernel_rfl
theorem row58 : (58 : TypeId) < Tryd.prog.types.size := of_decide_eq_true (by kernel_rfl)
theorem wide58 : (match Tryd.prog.underlying 58 with | some (.array _ _) | some (.struct _) => true | _ => false) = true := by kernel_rfl
set_option maxRecDepth 100000 in
theorem keyLaw : WideMaps.KeyLaw Tryd.prog 58 := deep_law_laid laidOut (m := 3) (by omega) row58 (by kernel_rfl) wide58
theorem cells58 : Tryd.prog.cellsOf 58 = 4 := by kernel_rfl
theorem cells56 : Tryd.prog.cellsOf 56 = 3 := by kernel_rfl
theorem cells3 : Tryd.prog.cellsOf 3 = 1 := by kernel_rfl
theorem keyType87 : Tryd.prog.keyType 58 = true := by kernel_rfl
theorem size_types : Tryd.prog.types.size + 1 = 157 + 3 := by kernel_rfl
def Small (l : List Int) : Prop := ∀ x ∈ l, -1 ≤ x ∧ x ≤ 1000000
theorem lit_small {x : Int} (h : -1 ≤ x ∧ x ≤ 1000000) : (Lit.int .i64 x).wf = true := by
 have h1 : IntKind.i64.min = -9223372036854775808 := rfl
 have h2 : IntKind.i64.max = 9223372036854775807 := rfl
 simp [Lit.wf, h1, h2]
 omega
theorem keyOf_key {s : Int} {l : List Int} (h : Small (keyL s l)) : ∃ lit, keyOf Tryd.prog 58 (keyV s l) = some lit := by
 have h1 := lit_small (h s (by simp [keyL]))
 have h2 := lit_small (h (rd l 0) (by simp [keyL]))
 have h3 := lit_small (h (rd l 1) (by simp [keyL]))
 have h4 := lit_small (h (rd l 2) (by simp [keyL]))
 have hk : ∀ d, Tryd.prog.keyLits (d + 3) 58 [.int .i64 s, .int .i64 (rd l 0), .int .i64 (rd l 1), .int .i64 (rd l 2)] = some [.int .i64 s, .int .i64 (rd l 0), .int .i64 (rd l 1), .int .i64 (rd l 2)] := by
  intro d
  simp [Program.keyLits, Tryd.underlying58, Tryd.underlying56, Tryd.underlying3, cells58, cells56, cells3, h1, h2, h3, h4, List.range_succ]
 unfold keyOf
 rw [Tryd.underlying58]
 have hf : (keyV s l).formed Tryd.prog 58 = true := by simp [keyV, Value.formed, Tryd.underlying58, cells58]
 have hc : (keyV s l).cells.toList = [.int .i64 s, .int .i64 (rd l 0), .int .i64 (rd l 1), .int .i64 (rd l 2)] := rfl
 simp only [keyType87, hf, hc, size_types, hk, Bool.and_self, if_true, Option.map_some]
 exact ⟨_, rfl⟩
theorem keyV_inj {s s' : Int} {l l' : List Int} (h : keyV s l = keyV s' l') : keyL s l = keyL s' l' := by
 simp [keyV] at h
 simp [keyL, h]
theorem keyV_of {s s' : Int} {l l' : List Int} (h : keyL s l = keyL s' l') : keyV s l = keyV s' l' := by
 simp [keyL] at h
 simp [keyV, h]

def MapAt (w : World) (b : Nat) (L : List (Value × Value)) : Prop := ∃ es clock, w.heap[b]? = some (.map es clock) ∧ es.toList.map (fun e => (e.key, e.val)) = L
def AreKeys (L : List (Value × Value)) : Prop := ∀ p ∈ L, ∃ l, keyOf Tryd.prog 58 p.1 = some l
theorem MapAt.lt {w : World} {b : Nat} {L : List (Value × Value)} (h : MapAt w b L) : b < w.heap.size := by
 obtain ⟨es, clock, hb, _⟩ := h
 exact (Array.getElem?_eq_some_iff.1 hb).1
theorem MapAt.same {w w' : World} {b : Nat} {L : List (Value × Value)} (h : MapAt w b L) (e : w'.heap[b]? = w.heap[b]?) : MapAt w' b L := by
 obtain ⟨es, clock, hb, hL⟩ := h
 exact ⟨es, clock, e.trans hb, hL⟩
theorem MapAt.kept {w w' : World} {b : Nat} {row : Option Nat} {L : List (Value × Value)} (h : MapAt w b L) (hg : w.grownBy w' row) (hne : some b ≠ row) : MapAt w' b L := h.same (hg.block b h.lt hne)
theorem MapAt.made (w : World) : MapAt (w.alloc (.map #[] 0)) w.heap.size [] := ⟨#[], 0, heap_alloc_new w _, rfl⟩
theorem AreKeys.entries {L : List (Value × Value)} (hK : AreKeys L) {es : Array MapEntry} (hL : es.toList.map (fun e => (e.key, e.val)) = L) : ∀ e ∈ es.toList, ∃ l, keyOf Tryd.prog 58 e.key = some l := by
 intro e he
 subst hL
 exact hK (e.key, e.val) (List.mem_map.2 ⟨e, he, rfl⟩)
theorem run_look {w : World} {b : Nat} {L : List (Value × Value)} {t e : TypeId} {z key : Value} {kl : Lit} (ht : Tryd.prog.underlying t = some (.map 58 e)) (hz : (zeroValue e).run Tryd.prog w = .ok z w) (h : MapAt w b L) (hK : AreKeys L) (hkey : keyOf Tryd.prog 58 key = some kl) (c : Bool) :
  ((∀ p ∈ L, p.1 ≠ key) ∧ (Instr.lookup t (.map (some b)) key c).run Tryd.prog w = .ok (if c then .tuple #[z, .bool false] else z) w) ∨
  ∃ v, (key, v) ∈ L ∧ (Instr.lookup t (.map (some b)) key c).run Tryd.prog w = .ok (if c then .tuple #[v, .bool true] else v) w := by
 obtain ⟨es, clock, hb, hL⟩ := h
 rcases keyLaw.find w hkey es.toList (hK.entries hL) with ⟨h1, h2⟩ | ⟨j, e0, h1, h2, h3⟩
 ·refine .inl ⟨fun p hp => ?_, by simp [Instr.lookup, run_underlying ht, MapKept.run_getObj_map hb, keyLaw.check w _ hkey, h1, hz, Result.andThen]⟩
  subst hL
  obtain ⟨x, hx, rfl⟩ := List.mem_map.1 hp
  exact h2 x hx
 ·refine .inr ⟨e0.val, ?_, by simp [Instr.lookup, run_underlying ht, MapKept.run_getObj_map hb, keyLaw.check w _ hkey, h1, Result.andThen]⟩
  subst hL
  exact List.mem_map.2 ⟨e0, List.mem_of_getElem? h2, by rw [h3]⟩
theorem run_store {w : World} {b : Nat} {L : List (Value × Value)} {t e : TypeId} {key val : Value} {kl : Lit} (ht : Tryd.prog.underlying t = some (.map 58 e)) (h : MapAt w b L) (hK : AreKeys L) (hkey : keyOf Tryd.prog 58 key = some kl) (hn : ∀ p ∈ L, p.1 ≠ key) :
  ∃ w', (Instr.mapUpdate t (.map (some b)) key val).run Tryd.prog w = .ok () w' ∧ MapAt w' b (L ++ [(key, val)]) ∧ w.grownBy w' (some b) := by
 obtain ⟨es, clock, hb, hL⟩ := h
 rcases keyLaw.find w hkey es.toList (hK.entries hL) with ⟨h1, h2⟩ | ⟨j, e0, h1, h2, h3⟩
 ·refine ⟨{ w with heap := w.heap.setIfInBounds b (.map (es.push { key, val, born := clock }) (clock + 1)) }, by simp [Instr.mapUpdate, run_underlying ht, MapKept.run_getObj_map hb, keyLaw.check w _ hkey, h1, MapKept.run_setObj_map _ hb, Result.andThen], ⟨_, _, (MapKept.heap_set hb).1, ?_⟩, ⟨rfl, rfl, rfl, by simp, fun k _ hk => (MapKept.heap_set hb).2 k (fun e => hk (by rw [e]))⟩⟩
  simp [hL]
 ·exact absurd h3 (by subst hL; exact hn (e0.key, e0.val) (List.mem_map.2 ⟨e0, List.mem_of_getElem? h2, rfl⟩))
end Go.Proofs.YtfoodfhhdbaieaaDoor.Giv
