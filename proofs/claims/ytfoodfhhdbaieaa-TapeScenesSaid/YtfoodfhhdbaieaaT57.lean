-- CUT by a program of this session: what the claim does not use is left out
import Derived.Test.YtfoodfhhdbaieaaT28
import Derived.Test.YtfoodfhhdbaieaaT42
import Derived.Test.YtfoodfhhdbaieaaKlo
import Derived.Test.YtfoodfhhdbaieaaKax10
namespace Go.Proofs.Ytfoodfhhdbaieaa.Giv
set_option linter.unusedSimpArgs false
set_option linter.unusedVariables false
open Go.RowKit Go.Proofs.YtfoodfhhdbaieaaW.PrintWords Go.Proofs.YtfoodfhhdbaieaaW.PrintLast Go.Proofs.YtfoodfhhdbaieaaW.PrintMore
open Go.Proofs.Ytfoodfhhdbaieaa.Ka (S54 k54 z54 rd_T54 rd_L1 commodatumlaw20_Wide.f commodatumlaw20_Wide.l0 commodatumlaw20_Long.f commodatumlaw20_Long.l0 commodatumlaw20_CopyScene.f commodatumlaw20_CopyScene.l0)

theorem wideF_total (a0 a1 a2 : Int) {l : List S54} (hf : ∀ r ∈ l, Fits r) : ∃ k b, commodatumlaw20_Wide.f k a0 a1 a2 l = some b ∧ (b = false → l.length ≤ 2000 ∧ ∀ r ∈ l, r.f1.length ≤ 100 ∧ r.f3.length ≤ 100 ∧ r.f4.length ≤ 100) := by
  by_cases hl : (l.length : Int) > 2000
  · refine ⟨0, true, ?_, fun h => by cases h⟩
    unfold commodatumlaw20_Wide.f
    rw [if_pos hl]
  · obtain ⟨b, e, hb⟩ := wide_total (a0 := a0) (a1 := a1) (a2 := a2) (by omega) hf l.length 0 (by omega) (by omega)
    refine ⟨l.length + 1, b, ?_, fun h => ⟨by omega, fun r hr => ?_⟩⟩
    · unfold commodatumlaw20_Wide.f
      rw [if_neg hl, e]
    · obtain ⟨j, hj, rfl⟩ := List.getElem_of_mem hr
      have := hb h j (by omega) hj
      have e2 : rd_T54 l (j : Int) = l[j] := by unfold rd_T54; rw [Int.toNat_natCast, List.getD_eq_getElem?_getD, List.getElem?_eq_getElem hj]; rfl
      rw [e2] at this
      omega
def FitsS (at_ : List Int) (tp : List (List Int)) : Prop := at_.length ≤ 18000000000000 ∧ ∀ x ∈ tp, x.length ≤ 18000000000000
theorem long_l0 {s : Int} {at_ : List Int} {tp : List (List Int)} (ht : tp.length ≤ 100) (hf : ∀ x ∈ tp, x.length ≤ 18000000000000) : ∀ (k : Nat) (n i : Int), 0 ≤ i → i ≤ tp.length → (tp.length : Int) - i < k → 0 ≤ n → n ≤ 18000000000000 + i * 18000000000000 → ∃ b, commodatumlaw20_Long.l0 k n i s at_ tp = some b ∧ (b = false → n ≤ 45000 ∧ ∀ j : Nat, i ≤ j → j < tp.length → (rd_L1 tp j).length ≤ 45000)
  | 0, n, i, h0, h1, h2, _, _ => by omega
  | k + 1, n, i, h0, h1, h2, h3, h4 => by
    unfold commodatumlaw20_Long.l0
    by_cases hi : i < (tp.length : Int)
    · have hm : (rd_L1 tp i).length ≤ 18000000000000 := by
        rw [show i = ((i.toNat : Nat) : Int) by omega]
        exact hf _ (rdL_mem (by omega))
      have hb : i * 18000000000000 ≤ 99 * 18000000000000 := Int.mul_le_mul_of_nonneg_right (by omega) (by decide)
      rw [if_pos hi, if_pos h0, w64_up (x := n + ((rd_L1 tp i).length : Int)) (by omega) (by omega), w64_up (x := i + 1) (by omega) (by omega)]
      obtain ⟨b, e, h5⟩ := long_l0 (s := s) (at_ := at_) ht hf k (n + (rd_L1 tp i).length) (i + 1) (by omega) (by omega) (by omega) (by omega) (by rw [Int.add_mul]; omega)
      refine ⟨b, e, fun hb => ?_⟩
      obtain ⟨h6, h7⟩ := h5 hb
      refine ⟨by omega, fun j hj hl => ?_⟩
      by_cases he : (j : Int) = i
      · rw [he]; omega
      · exact h7 j (by omega) hl
    · rw [if_neg hi]
      exact ⟨_, rfl, fun hb => ⟨by simpa using hb, fun j hj hl => by omega⟩⟩
theorem long_total (s : Int) {at_ : List Int} {tp : List (List Int)} (hf : FitsS at_ tp) : ∃ k b, commodatumlaw20_Long.f k s at_ tp = some b ∧ (b = false → at_.length ≤ 45000 ∧ tp.length ≤ 100 ∧ ∀ x ∈ tp, x.length ≤ 45000) := by
  unfold commodatumlaw20_Long.f
  by_cases ht : (tp.length : Int) > 100
  · exact ⟨0, true, by rw [if_pos ht], fun h => by cases h⟩
  · obtain ⟨b, e, h⟩ := long_l0 (s := s) (at_ := at_) (tp := tp) (by omega) hf.2 (tp.length + 1) at_.length 0 (by omega) (by omega) (by omega) (by omega) (by have := hf.1; omega)
    refine ⟨tp.length + 1, b, by rw [if_neg ht, e], fun hb => ?_⟩
    obtain ⟨h1, h2⟩ := h hb
    refine ⟨by omega, by omega, fun x hx => ?_⟩
    obtain ⟨j, hj, rfl⟩ := List.getElem_of_mem hx
    have := h2 j (by omega) hj
    have e2 : rd_L1 tp (j : Int) = tp[j] := by unfold rd_L1; rw [Int.toNat_natCast, List.getD_eq_getElem?_getD, List.getElem?_eq_getElem hj]; rfl
    rw [e2] at this
    exact this
theorem copyS_l0 {s : Int} {at_ : List Int} {tp : List (List Int)} (ht : tp.length ≤ 100) (hf : ∀ x ∈ tp, x.length ≤ 45000) {s2 : Int} {a2 : List Int} : ∀ (k : Nat) (i : Nat), i ≤ tp.length → tp.length - i < k → commodatumlaw20_CopyScene.l0 k i s at_ tp s2 a2 (tp.take i) = some (s2, a2, tp)
  | 0, i, h1, h2 => by omega
  | k + 1, i, h1, h2 => by
    unfold commodatumlaw20_CopyScene.l0
    by_cases hi : (i : Int) < (tp.length : Int)
    · have hm := hf _ (rdL_mem (l := tp) (i := i) (by omega))
      rw [if_pos hi, Option.bind_some, if_pos (show (0 : Int) ≤ i by omega), if_pos (by simp only [List.length_nil]; omega), if_pos (by rw [List.length_take]; omega), w64_up (by omega) (by omega), List.nil_append]
      have e : tp.take i ++ [rd_L1 tp (i : Int)] = tp.take (i + 1) := by
        rw [List.take_succ_eq_append_getElem (by omega)]
        congr 2
        unfold rd_L1
        rw [Int.toNat_natCast, List.getD_eq_getElem?_getD, List.getElem?_eq_getElem (by omega)]
        rfl
      rw [e]
      exact copyS_l0 ht hf k (i + 1) (by omega) (by omega)
    · rw [if_neg hi, List.take_of_length_le (by omega)]
theorem copyS_total (s : Int) {at_ : List Int} {tp : List (List Int)} (ha : at_.length ≤ 45000) (ht : tp.length ≤ 100) (hf : ∀ x ∈ tp, x.length ≤ 45000) : ∃ k, commodatumlaw20_CopyScene.f k s at_ tp = some (s, at_, tp) := by
  refine ⟨tp.length + 1, ?_⟩
  unfold commodatumlaw20_CopyScene.f
  rw [Option.bind_some, if_pos (by simp only [List.length_nil]; omega), List.nil_append]
  exact copyS_l0 (s := s) (at_ := at_) ht hf (tp.length + 1) 0 (by omega) (by omega)
theorem copyScene_C {w : World} {s : Int} {at_ : List Int} {tp : List (List Int)} {A1 A2 : Option Addr} {c1 c2 : Nat} (h1 : Kd.C (Kd.int .i64) w A1 at_.length at_) (l1 : at_.length ≤ c1) (h2 : Kd.C (Kd.slice 3 (Kd.int .i64)) w A2 tp.length tp) (l2 : tp.length ≤ c2) (ha : at_.length ≤ 45000) (ht : tp.length ≤ 100) (hf : ∀ x ∈ tp, x.length ≤ 45000) :
    Calls Try.prog 28 #[.agg #[.int .i64 s, .slice A1 at_.length c1, .slice A2 tp.length c2]] w fun e w' => ∃ v, e = .returned v ∧ SceneV w' v s at_ tp ∧ Below w.heap.size w w' := by
  obtain ⟨k, hk⟩ := copyS_total s ha ht hf
  refine (Ka.commodatumlaw20_CopyScene.calls k s A1 c1 at_ A2 c2 tp s at_ tp w h1 l1 h2 l2 hk).mono ?_
  rintro e w' ⟨v1, v2, rfl, r1, r2, hb⟩
  obtain ⟨B1, d1, rfl, q1, q2⟩ := Kd.R_reads r1
  obtain ⟨B2, d2, rfl, q3, q4⟩ := Kd.R_reads (Kd.S_R r2)
  exact ⟨_, rfl, ⟨B1, d1, B2, d2, rfl, q1, q2, q3, q4⟩, hb⟩
end Go.Proofs.Ytfoodfhhdbaieaa.Giv
