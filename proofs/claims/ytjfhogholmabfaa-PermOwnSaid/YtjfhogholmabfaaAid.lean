-- CUT by a program of this session: what the claim does not use is left out
import Derived.Test.YtjfhogholmabfaaWAll
namespace Go.Proofs.Ytjfhogholmabfaa.Aid
open Go.RowKit Go.Proofs.YtjfhogholmabfaaW.PrintWords Go.Proofs.YtjfhogholmabfaaW.PrintLast Go.Proofs.YtjfhogholmabfaaW.PrintMore
def HeapOnly {α : Type} (d : Kd α) : Prop := ∀ (w w' : World) (x : α) (cs : List Value), w.heap = w'.heap → d.K w x cs → d.K w' x cs
theorem HeapOnly.C {α : Type} {d : Kd α} (hd : HeapOnly d) {w w' : World} {A : Option Addr} {n : Nat} {l : List α} (hw : w.heap = w'.heap) (h : Kd.C d w A n l) : Kd.C d w' A n l := by
  obtain ⟨h1, h2, h3⟩ := h
  refine ⟨h1, h2, fun hn => ?_⟩
  obtain ⟨ad, hA, hc⟩ := h3 hn
  refine ⟨ad, hA, fun j p hj => ?_⟩
  obtain ⟨c, hl, hK, hcell⟩ := hc j p hj
  refine ⟨c, hl, hd _ _ _ _ hw hK, fun i u hi => ?_⟩
  rw [← hcell i u hi]
  exact World.cell?_of_block (by rw [hw])
end Go.Proofs.Ytjfhogholmabfaa.Aid
