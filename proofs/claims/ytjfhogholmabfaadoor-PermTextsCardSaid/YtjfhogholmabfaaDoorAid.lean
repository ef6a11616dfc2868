-- CUT by a program of this session: what the claim does not use is left out
import Derived.Test.YtjfhogholmabfaaDoorWAll
namespace Go.Proofs.YtjfhogholmabfaaDoor.Aid
open Go.RowKit Go.Proofs.YtjfhogholmabfaaDoorW.PrintWords Go.Proofs.YtjfhogholmabfaaDoorW.PrintLast Go.Proofs.YtjfhogholmabfaaDoorW.PrintMore
def HeapOnly {α : Type} (d : Kd α) : Prop := ∀ (w w' : World) (x : α) (cs : List Value), w.heap = w'.heap → d.K w x cs → d.K w' x cs
theorem HeapOnly.C {α : Type} {d : Kd α} (hd : HeapOnly d) {w w' : World} {A : Option Addr} {n : Nat} {l : List α} (hw : w.heap = w'.heap) (h : Kd.C d w A n l) : Kd.C d w' A n l := by
  obtain ⟨h1, h2, h3⟩ := h
  refine ⟨h1, h2, fun hn => ?_⟩
  obtain ⟨ad, hA, hc⟩ := h3 hn
  refine ⟨ad, hA, fun j p hj => ?_⟩
  obtain ⟨c, hl, hK, hcell⟩ := hc j p hj
  refine ⟨c, hl, hd _ _ _ _ hw hK, fun i u hi => ?_⟩
  rw [← hcell i u hi]
  exact World.cell?_of_block (by rw [hw])
theorem heapOnly_int (k : IntKind) : HeapOnly (Kd.int k) := fun _ _ _ _ _ h => h
theorem vOfC {α : Type} {d : Kd α} {e base c : Nat} {w : World} {A : Option Addr} {l : List α} (hd : HeapOnly d) (h : Kd.C d w A l.length l) (hc : l.length ≤ c) : Kd.V d e w base (fun _ => True) (.slice A l.length c) l := by
  refine ⟨A, c, rfl, hc, fun W' hW => ?_⟩
  have hs : w.heap.size ≤ W'.heap.size := by
    rcases Nat.lt_or_ge W'.heap.size w.heap.size with h1 | h1
    · have h2 := hW W'.heap.size trivial h1
      rw [Array.getElem?_eq_getElem h1] at h2
      simp at h2
    · exact h1
  have hb : Below w.heap.size w { w with heap := W'.heap } := ⟨rfl, rfl, rfl, hs, fun k hk => hW k trivial hk⟩
  exact hd.C (w := { w with heap := W'.heap }) rfl (Kd.C_below h hb)
end Go.Proofs.YtjfhogholmabfaaDoor.Aid
