-- CUT by a program of this session: what the claim does not use is left out
import Derived.Test.YtfoodfhhdbaieaaDoorT15
import Derived.Shelf.Abstract
import Derived.Great.Walk
namespace Go.Proofs.YtfoodfhhdbaieaaDoor.Giv
set_option maxRecDepth 100000
set_option linter.unusedSimpArgs false
set_option linter.unusedVariables false
open Go.RowKit Go.Shelf Go.Proofs.YtfoodfhhdbaieaaDoorW.PrintWords Go.Proofs.YtfoodfhhdbaieaaDoorW.PrintLast Go.Proofs.YtfoodfhhdbaieaaDoorW.PrintMore
open Go.Proofs.YtfoodfhhdbaieaaDoor.Ka (S40 k40 z40 rd_T40 at_T40 k40_open k40_mk rd_L1 at_L1 info3 info38 info40)

def trunc (w : World) (B : Nat) : World := { w with heap := w.heap.extract 0 B }
theorem trunc_size {w : World} {B : Nat} (h : B ≤ w.heap.size) : (trunc w B).heap.size = B := by simp [trunc]; omega
theorem trunc_below {w : World} {B : Nat} (h : B ≤ w.heap.size) : Below (trunc w B).heap.size (trunc w B) w := by
 have hs := trunc_size h
 refine ⟨rfl, rfl, rfl, by rw [hs]; exact h, fun k hk => ?_⟩
 rw [hs] at hk
 simp [trunc, Array.getElem?_extract, hk]
 intro h2; omega
theorem below_trunc {wM w : World} {B : Nat} (h : Below wM.heap.size wM w) (hB : wM.heap.size ≤ B) (hw : B ≤ w.heap.size) : Below wM.heap.size wM (trunc w B) := by
 have ht := trunc_below hw
 refine ⟨ht.os.symm.trans h.os, ht.tape.symm.trans h.tape, ht.output.symm.trans h.output, by rw [trunc_size hw]; exact hB, fun k hk => ?_⟩
 exact (ht.block k (by rw [trunc_size hw]; omega)).symm.trans (h.block k hk)
theorem trunc_block {w w' : World} {B : Nat} (hw : B ≤ w.heap.size) (h : Below (trunc w B).heap.size (trunc w B) w') : ∀ k, k < B → w'.heap[k]? = w.heap[k]? := fun k hk =>
 (h.block k (by rw [trunc_size hw]; exact hk)).trans ((trunc_below hw).block k (by rw [trunc_size hw]; exact hk)).symm
structure Kept1 (E : Nat) (gf : Option Nat) (w w' : World) : Prop where
 os : w'.os = w.os
 tape : w'.tape = w.tape
 output : w'.output = w.output
 size : E ≤ w'.heap.size
 block : ∀ k, k < E → some k ≠ gf → w'.heap[k]? = w.heap[k]?
theorem Kept1.of_grown {w w' : World} {gf : Option Nat} (h : w.grownBy w' gf) : Kept1 w.heap.size gf w w' := ⟨h.os, h.tape, h.output, h.size, h.block⟩
theorem Kept1.of_below {w w' : World} {gf : Option Nat} (h : Below w.heap.size w w') : Kept1 w.heap.size gf w w' := ⟨h.os, h.tape, h.output, h.size, fun k hk _ => h.block k hk⟩
theorem Kept1.trans {E : Nat} {gf : Option Nat} {w w1 w2 : World} (h1 : Kept1 E gf w w1) (h2 : Kept1 E gf w1 w2) : Kept1 E gf w w2 := ⟨h2.os.trans h1.os, h2.tape.trans h1.tape, h2.output.trans h1.output, h2.size, fun k hk hn => (h2.block k hk hn).trans (h1.block k hk hn)⟩
theorem Kept1.mono {E E' : Nat} {gf : Option Nat} {w w1 : World} (h : Kept1 E gf w w1) (hE : E' ≤ E) : Kept1 E' gf w w1 := ⟨h.os, h.tape, h.output, Nat.le_trans hE h.size, fun k hk hn => h.block k (by omega) hn⟩
theorem Kept1.below {E : Nat} {gf : Option Nat} {wM w w1 : World} (h : Kept1 E gf w w1) (hM : Below wM.heap.size wM w) (hE : wM.heap.size ≤ E) (hg : ∀ k, gf = some k → wM.heap.size ≤ k) : Below wM.heap.size wM w1 :=
 ⟨h.os.trans hM.os, h.tape.trans hM.tape, h.output.trans hM.output, Nat.le_trans hE h.size, fun k hk => (h.block k (by omega) (fun e => by have := hg k e.symm; omega)).trans (hM.block k hk)⟩
theorem own_C_agree {w : World} {base E m c : Nat} {A : Option Addr} {l : List Int} (h : w.ownsRow base 3 1 (.slice A m c) l.length (l.map (Value.int .i64))) (hE : E ≤ base) (W' : World) (ha : ∀ k, E ≤ k → k < w.heap.size → W'.heap[k]? = w.heap[k]?) : Kd.C (Kd.int .i64) W' A l.length l := by
 have h' : W'.ownsRow base 3 1 (.slice A m c) l.length (l.map (Value.int .i64)) := by
  refine ⟨h.1, ?_⟩
  rcases h.2 with hn | ⟨g, cap, cur, hv, hb, hg, rest⟩
  ·exact .inl hn
  ·exact .inr ⟨g, cap, cur, hv, hb, (ha g (by omega) (Array.getElem?_eq_some_iff.1 hg).1).trans hg, rest⟩
 obtain ⟨A', c', e, _, hC⟩ := own_C h'
 injection e with e1 _ _
 subst e1
 exact hC
structure SeeOk {σ : Type} (g : Nat) (lb : Array Value) (J : World → σ → Prop) (f : σ → List Int → σ) (gf : Option Nat) (n E : Nat) : Prop where
 eg : ∀ args w, (callFunc g args).run Tryd.prog w = .ok (.enter g args) w
 keep : ∀ (W W' : World) (st : σ), J W st → (∀ k, k < E → W'.heap[k]? = W.heap[k]?) → J W' st
 call : ∀ (W : World) (st : σ) (s : Int) (A1 : Option Addr) (c1 : Nat) (at_ : List Int) (A2 : Option Addr) (n2 c2 : Nat), J W st → E ≤ W.heap.size → at_.length = n → (∀ i : Nat, 0 ≤ rd at_ i ∧ rd at_ i ≤ 100000) → (∀ W' : World, (∀ k, E ≤ k → k < W.heap.size → W'.heap[k]? = W.heap[k]?) → Kd.C (Kd.int .i64) W' A1 at_.length at_) →
  Calls Tryd.prog g (#[.agg #[.int .i64 s, .slice A1 at_.length c1, .slice A2 n2 c2]] ++ lb) W fun e w' => e = .returned (.tuple #[]) ∧ J w' (f st at_) ∧ W.grownBy w' gf
theorem see44 (n E : Nat) : SeeOk (σ := Unit) 31 #[] (fun _ _ => True) (fun _ _ => ()) none n E where
 eg := enters_of Tryd.func31 (by kernel_rfl) rfl
 keep _ _ _ _ _ := trivial
 call W st s A1 c1 at_ A2 n2 c2 _ _ _ _ _ := by
  show Calls Tryd.prog 31 #[.agg #[.int .i64 s, .slice A1 at_.length c1, .slice A2 n2 c2]] W _
  go_enter Tryd.func31, Tryd.ntmps31
  go_wp2
  refine Go.Great.bodyPost_end0 rfl rfl ?_
  exact ⟨rfl, trivial, World.grownBy_alloc _ _ none⟩
theorem see46 (n E : Nat) : SeeOk (σ := Unit) 33 #[] (fun _ _ => True) (fun _ _ => ()) none n E where
 eg := enters_of Tryd.func33 (by kernel_rfl) rfl
 keep _ _ _ _ _ := trivial
 call W st s A1 c1 at_ A2 n2 c2 _ _ _ _ _ := by
  show Calls Tryd.prog 33 #[.agg #[.int .i64 s, .slice A1 at_.length c1, .slice A2 n2 c2]] W _
  go_enter Tryd.func33, Tryd.ntmps33
  go_wp2
  refine Go.Great.bodyPost_end0 rfl rfl ?_
  exact ⟨rfl, trivial, World.grownBy_alloc _ _ none⟩
end Go.Proofs.YtfoodfhhdbaieaaDoor.Giv
