-- CUT by a program of this session: what the claim does not use is left out
import Derived.Test.YtfoodfhhdbaieaaDoorKax1
namespace Go.Proofs.YtfoodfhhdbaieaaDoor.Giv
set_option maxRecDepth 100000
set_option linter.unusedSimpArgs false
set_option linter.unusedVariables false
open Go.RowKit Go.Proofs.YtfoodfhhdbaieaaDoorW.PrintWords Go.Proofs.YtfoodfhhdbaieaaDoorW.PrintLast Go.Proofs.YtfoodfhhdbaieaaDoorW.PrintMore
open Go.Proofs.YtfoodfhhdbaieaaDoor.Ka (S40 rd_T40 rd_L1 commodatumlaw20_Wide.l0 commodatumlaw20_Wide.f)
theorem wrap64_id {x : Int} (h0 : 0 ≤ x) (h1 : x ≤ 60000000000000) : wrap64 x = x := by unfold wrap64; omega
def Fits (r : S40) : Prop := r.f1.length ≤ 18000000000000 ∧ r.f3.length ≤ 18000000000000 ∧ r.f4.length ≤ 18000000000000
theorem wide_sum {r : S40} (h : Fits r) : wrap64 ((wrap64 (((r.f1).length : Int) + ((r.f3).length : Int))) + ((r.f4).length : Int)) = (r.f1.length : Int) + r.f3.length + r.f4.length := by
 obtain ⟨h1, h2, h3⟩ := h
 rw [wrap64_id (x := (r.f1.length : Int) + r.f3.length) (by omega) (by omega), wrap64_id (by omega) (by omega)]
theorem wide_total {a0 a1 a2 : Int} {l : List S40} (hl : l.length ≤ 2000) (hf : ∀ r ∈ l, Fits r) : ∀ (n : Nat) (i : Int), 0 ≤ i → (n : Int) = l.length - i → ∃ b, commodatumlaw20_Wide.l0 (n + 1) i a0 a1 a2 l = some b ∧ (b = false → ∀ j : Nat, i ≤ j → j < l.length → (rd_T40 l j).f1.length + (rd_T40 l j).f3.length + (rd_T40 l j).f4.length ≤ 100)
 | 0, i, h0, hn => by
  refine ⟨false, ?_, fun _ j h1 h2 => by omega⟩
  rw [commodatumlaw20_Wide.l0, if_neg (by omega)]
 | n + 1, i, h0, hn => by
  have hi : i < (l.length : Int) := by omega
  have hr : rd_T40 l i ∈ l := by unfold rd_T40; rw [List.getD_eq_getElem?_getD, List.getElem?_eq_getElem (by omega)]; exact List.getElem_mem _
  rw [commodatumlaw20_Wide.l0, if_pos hi, if_pos h0, wide_sum (hf _ hr)]
  by_cases h : ((rd_T40 l i).f1.length : Int) + (rd_T40 l i).f3.length + (rd_T40 l i).f4.length > 100
  ·rw [if_pos h]
   exact ⟨true, rfl, fun h => by cases h⟩
  ·rw [if_neg h, wrap64_id (by omega) (by omega)]
   obtain ⟨b, e, hb⟩ := wide_total (a0 := a0) (a1 := a1) (a2 := a2) hl hf n (i + 1) (by omega) (by omega)
   refine ⟨b, e, fun h' j h1 h2 => ?_⟩
   by_cases hj : i + 1 ≤ (j : Int)
   ·exact hb h' j hj h2
   ·have : (j : Int) = i := by omega
    rw [this]; omega
theorem wideF_total (a0 a1 a2 : Int) {l : List S40} (hf : ∀ r ∈ l, Fits r) : ∃ k b, commodatumlaw20_Wide.f k a0 a1 a2 l = some b ∧ (b = false → l.length ≤ 2000 ∧ ∀ r ∈ l, r.f1.length ≤ 100 ∧ r.f3.length ≤ 100 ∧ r.f4.length ≤ 100) := by
 by_cases hl : (l.length : Int) > 2000
 ·refine ⟨0, true, ?_, fun h => by cases h⟩
  unfold commodatumlaw20_Wide.f
  rw [if_pos hl]
 ·obtain ⟨b, e, hb⟩ := wide_total (a0 := a0) (a1 := a1) (a2 := a2) (by omega) hf l.length 0 (by omega) (by omega)
  refine ⟨l.length + 1, b, ?_, fun h => ⟨by omega, fun r hr => ?_⟩⟩
  ·unfold commodatumlaw20_Wide.f
   rw [if_neg hl, e]
  ·obtain ⟨j, hj, rfl⟩ := List.getElem_of_mem hr
   have := hb h j (by omega) hj
   have e2 : rd_T40 l (j : Int) = l[j] := by unfold rd_T40; rw [Int.toNat_natCast, List.getD_eq_getElem?_getD, List.getElem?_eq_getElem hj]; rfl
   rw [e2] at this
   omega
end Go.Proofs.YtfoodfhhdbaieaaDoor.Giv
