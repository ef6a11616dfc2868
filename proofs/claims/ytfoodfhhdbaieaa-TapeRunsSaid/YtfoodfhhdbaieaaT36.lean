-- CUT by a program of this session: what the claim does not use is left out
import Derived.Test.YtfoodfhhdbaieaaT18
namespace Go.Proofs.Ytfoodfhhdbaieaa.Giv
set_option linter.unusedSimpArgs false
set_option linter.unusedVariables false
open Go.RowKit Go.Shelf Go.Proofs.YtfoodfhhdbaieaaW.PrintWords Go.Proofs.YtfoodfhhdbaieaaW.PrintLast Go.Proofs.YtfoodfhhdbaieaaW.PrintMore
open Go.Proofs.Ytfoodfhhdbaieaa.Ka (S54 k54 z54 rd_T54 at_T54 k54_open k54_mk rd_L1 at_L1 info3 info25 info54)

theorem rd_mem {l : List Int} {i : Nat} (h : i < l.length) : rd l i ∈ l := by
  unfold rd
  rw [Int.toNat_natCast, List.getD_eq_getElem?_getD, List.getElem?_eq_getElem h]
  exact List.getElem_mem _
theorem rd_out {l : List Int} {i : Nat} (h : ¬ i < l.length) : rd l i = 0 := by
  unfold rd
  rw [Int.toNat_natCast, List.getD_eq_getElem?_getD, List.getElem?_eq_none (by omega)]
  rfl
theorem rdL_mem {l : List (List Int)} {i : Nat} (h : i < l.length) : rd_L1 l i ∈ l := by
  unfold rd_L1
  rw [Int.toNat_natCast, List.getD_eq_getElem?_getD, List.getElem?_eq_getElem h]
  exact List.getElem_mem _
theorem rdL_out {l : List (List Int)} {i : Nat} (h : ¬ i < l.length) : rd_L1 l i = [] := by
  unfold rd_L1
  rw [Int.toNat_natCast, List.getD_eq_getElem?_getD, List.getElem?_eq_none (by omega)]
  rfl
theorem any_not {α : Type} {p : α → Bool} {l : List α} (h : l.any p = false) : ∀ x ∈ l, p x = false := fun x hx => by
  cases hp : p x with
  | false => rfl
  | true => rw [List.any_eq_true.2 ⟨x, hx, hp⟩] at h; cases h
theorem scene_good {a0 a1 a2 : Int} {l : List S54} {s : Int} {at_ : List Int} {tp : List (List Int)} (h : sceneB a0 a1 a2 l s at_ tp = true) : validM a0 a1 a2 l = true ∧ Good a0 a1 a2.toNat 20000 20001 ⟨s, at_, tp⟩ := by
  unfold sceneB at h
  simp only [Bool.and_eq_true, Bool.not_eq_true', decide_eq_false_iff_not, beq_iff_eq] at h
  obtain ⟨⟨⟨⟨⟨⟨hv, h1⟩, h2⟩, h3⟩, h4⟩, h5⟩, h6⟩ := h
  obtain ⟨g0, g1, g2⟩ := valid_a2 hv
  refine ⟨hv, by show 0 ≤ s ∧ s < a0; omega, by show at_.length = _; omega, by show tp.length = _; omega, fun i => ?_, fun i => ?_, fun i j => ?_⟩
  · show 0 ≤ rd at_ i ∧ rd at_ i ≤ (20000 : Nat)
    by_cases hi : i < at_.length
    · have := any_not h5 _ (rd_mem hi)
      unfold outP at this
      simp only [Bool.or_eq_false_iff, decide_eq_false_iff_not] at this
      omega
    · rw [rd_out hi]; omega
  · show (rd_L1 tp i).length ≤ 20001
    by_cases hi : i < tp.length
    · have := any_not h6 _ (rdL_mem hi)
      unfold rowB at this
      simp only [Bool.or_eq_false_iff, decide_eq_false_iff_not] at this
      omega
    · rw [rdL_out hi]; simp
  · show 0 ≤ rd (rd_L1 tp i) j ∧ rd (rd_L1 tp i) j < a1
    by_cases hi : i < tp.length
    · by_cases hj : j < (rd_L1 tp i).length
      · have := any_not h6 _ (rdL_mem hi)
        unfold rowB at this
        rw [Bool.or_eq_false_iff] at this
        have := any_not this.2 _ (rd_mem hj)
        unfold outB at this
        simp only [Bool.or_eq_false_iff, decide_eq_false_iff_not] at this
        omega
      · rw [rd_out hj]; omega
    · rw [rdL_out hi, rd_out (by simp)]; omega
theorem scene_foot {w4 w5 u : World} {v : Value} {s : Int} {at_ : List Int} {tp : List (List Int)} (hv : ∀ w'' : World, (∀ k, w4.heap.size ≤ k → w''.heap[k]? = w5.heap[k]?) → SceneV w'' v s at_ tp) (hE : ∀ k, w4.heap.size ≤ k → k < w5.heap.size → u.heap[k]? = w5.heap[k]?) (hs : w5.heap.size ≤ u.heap.size) : SceneV u v s at_ tp := by
  refine SceneV_below (hv (trunc u w5.heap.size) (fun k hk => ?_)) (trunc_below hs)
  by_cases hk2 : k < w5.heap.size
  · rw [← trunc_block hs (Below.refl _ _) k hk2 |>.symm, hE k hk hk2]
  · rw [Array.getElem?_eq_none (by rw [trunc_size hs]; omega), Array.getElem?_eq_none (by omega)]
end Go.Proofs.Ytfoodfhhdbaieaa.Giv
