-- CUT by a program of this session: what the claim does not use is left out
import Derived.Test.YtfoodfhhdbaieaaT36
import Derived.Test.YtfoodfhhdbaieaaT43
import Derived.Test.YtfoodfhhdbaieaaT52
import Derived.Test.YtfoodfhhdbaieaaKax7
import Derived.Test.YtfoodfhhdbaieaaKax9
namespace Go.Proofs.Ytfoodfhhdbaieaa.Giv
set_option linter.unusedSimpArgs false
set_option linter.unusedVariables false
open Go.RowKit Go.Proofs.YtfoodfhhdbaieaaW.PrintWords Go.Proofs.YtfoodfhhdbaieaaW.PrintLast Go.Proofs.YtfoodfhhdbaieaaW.PrintMore
open Go.Proofs.Ytfoodfhhdbaieaa.Ka (S54 z54 rd_T54 rd_L1 commodatumref20_within.f commodatumref20_Find.f commodatumref20_read.f commodatumref20_Final.f)

theorem up_of {α : Type} {g : Nat → Option α} (h : ∀ k, LeO (g k) (g (k + 1))) {k : Nat} {r : α} (e : g k = some r) : ∀ m, g (k + m) = some r
  | 0 => e
  | m + 1 => h (k + m) r (up_of h e m)
theorem refFinal_total {a0 a1 a2 : Int} {rs : List S54} {s : Int} {at_ : List Int} {tp : List (List Int)} {n b M : Nat} (hG : Good a0 a1 n b M ⟨s, at_, tp⟩) (hn : n ≤ 3) (hrs : ∀ r ∈ rs, RuleOk a0 a1 n r) (hlen : rs.length ≤ 2000) :
    ∃ k v, commodatumref20_Final.f k a0 a1 a2 rs s at_ tp = some v ∧ (stepS rs ⟨s, at_, tp⟩ = none → v = true) ∧ (∀ d, stepS rs ⟨s, at_, tp⟩ = some d → v = false) := by
  have hla : at_.length = n := hG.la
  have hlt : tp.length = n := hG.lt
  have hsr : stepS rs ⟨s, at_, tp⟩ = (findR rs s (readL at_ tp)).map fun r => ⟨r.f2, (stepTo r at_ tp at_.length).1, (stepTo r at_ tp at_.length).2⟩ := rfl
  have hno : s = 1 ∨ s = 2 → stepS rs ⟨s, at_, tp⟩ = none := fun h => by
    rw [hsr]
    cases hf : findR rs s (readL at_ tp) with
    | none => rfl
    | some r =>
      have hr := hrs r (List.mem_of_find?_eq_some hf)
      have h0 := List.find?_some hf
      simp only [keyL, beq_iff_eq, List.cons.injEq] at h0
      have := hr.ne1
      have := hr.ne2
      have := h0.1
      omega
  unfold commodatumref20_Final.f
  by_cases h1 : s = 1
  · refine ⟨0, true, by rw [if_pos h1], fun _ => rfl, fun d hd => ?_⟩
    rw [hno (.inl h1)] at hd; cases hd
  by_cases h2 : s = 2
  · refine ⟨0, true, by rw [if_neg h1, if_pos h2], fun _ => rfl, fun d hd => ?_⟩
    rw [hno (.inr h2)] at hd; cases hd
  obtain ⟨kr, hkr⟩ := read_total s (at_ := at_) (tp := tp) (by omega) (by omega) (fun i => (hG.pos i).1)
  obtain ⟨kf, j, hkf, hj1, hj2⟩ := find_total (a0 := a0) (a1 := a1) (a2 := a2) (n := n) hn (fun r hr => (hrs r hr).l1) hlen (s := s) (x := readL at_ tp) (by rw [readL_length]; exact hla)
  have e1 := up_of (g := fun k => commodatumref20_read.f k s at_ tp) (Ka.commodatumref20_read.mono s at_ tp) hkr kf
  have e2 := up_of (g := fun k => commodatumref20_Find.f k a0 a1 a2 rs s (readL at_ tp)) (Ka.commodatumref20_Find.mono a0 a1 a2 rs s (readL at_ tp)) hkf kr
  try simp only at e1 e2
  rw [Nat.add_comm kf kr] at e2
  refine ⟨kr + kf, decide (j < 0), by rw [if_neg h1, if_neg h2, e1, Option.bind_some, e2, Option.bind_some], fun hn0 => ?_, fun d hd => ?_⟩
  · rw [hsr] at hn0
    have hf : findR rs s (readL at_ tp) = none := by
      cases hf : findR rs s (readL at_ tp) with
      | none => rfl
      | some r => rw [hf] at hn0; cases hn0
    rw [hj1 hf]; rfl
  · rw [hsr] at hd
    cases hf : findR rs s (readL at_ tp) with
    | none => rw [hf] at hd; cases hd
    | some r => exact decide_eq_false (by have := hj2 r hf; omega)
end Go.Proofs.Ytfoodfhhdbaieaa.Giv
