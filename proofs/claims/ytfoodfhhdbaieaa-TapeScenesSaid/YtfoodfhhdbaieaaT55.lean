-- CUT by a program of this session: what the claim does not use is left out
import Derived.Test.YtfoodfhhdbaieaaT36
import Derived.Test.YtfoodfhhdbaieaaT43
import Derived.Test.YtfoodfhhdbaieaaT52
import Derived.Test.YtfoodfhhdbaieaaKax7
import Derived.Test.YtfoodfhhdbaieaaKax9
namespace Go.Proofs.Ytfoodfhhdbaieaa.Giv
set_option linter.unusedSimpArgs false
set_option linter.unusedVariables false
open Go.RowKit Go.Proofs.YtfoodfhhdbaieaaW.PrintWords Go.Proofs.YtfoodfhhdbaieaaW.PrintLast Go.Proofs.YtfoodfhhdbaieaaW.PrintMore
open Go.Proofs.Ytfoodfhhdbaieaa.Ka (S54 z54 rd_T54 rd_L1 commodatumref20_within.f commodatumref20_Find.f commodatumref20_read.f commodatumref20_Final.f commodatumref20_ValidScene.f commodatumref20_ValidScene.l0 commodatumref20_ValidScene.j0)

theorem up_of {α : Type} {g : Nat → Option α} (h : ∀ k, LeO (g k) (g (k + 1))) {k : Nat} {r : α} (e : g k = some r) : ∀ m, g (k + m) = some r
  | 0 => e
  | m + 1 => h (k + m) r (up_of h e m)
theorem refFinal_total {a0 a1 a2 : Int} {rs : List S54} {s : Int} {at_ : List Int} {tp : List (List Int)} {n b M : Nat} (hG : Good a0 a1 n b M ⟨s, at_, tp⟩) (hn : n ≤ 3) (hrs : ∀ r ∈ rs, RuleOk a0 a1 n r) (hlen : rs.length ≤ 2000) :
    ∃ k v, commodatumref20_Final.f k a0 a1 a2 rs s at_ tp = some v ∧ (stepS rs ⟨s, at_, tp⟩ = none → v = true) ∧ (∀ d, stepS rs ⟨s, at_, tp⟩ = some d → v = false) := by
  have hla : at_.length = n := hG.la
  have hlt : tp.length = n := hG.lt
  have hsr : stepS rs ⟨s, at_, tp⟩ = (findR rs s (readL at_ tp)).map fun r => ⟨r.f2, (stepTo r at_ tp at_.length).1, (stepTo r at_ tp at_.length).2⟩ := rfl
  have hno : s = 1 ∨ s = 2 → stepS rs ⟨s, at_, tp⟩ = none := fun h => by
    rw [hsr]
    cases hf : findR rs s (readL at_ tp) with
    | none => rfl
    | some r =>
      have hr := hrs r (List.mem_of_find?_eq_some hf)
      have h0 := List.find?_some hf
      simp only [keyL, beq_iff_eq, List.cons.injEq] at h0
      have := hr.ne1
      have := hr.ne2
      have := h0.1
      omega
  unfold commodatumref20_Final.f
  by_cases h1 : s = 1
  · refine ⟨0, true, by rw [if_pos h1], fun _ => rfl, fun d hd => ?_⟩
    rw [hno (.inl h1)] at hd; cases hd
  by_cases h2 : s = 2
  · refine ⟨0, true, by rw [if_neg h1, if_pos h2], fun _ => rfl, fun d hd => ?_⟩
    rw [hno (.inr h2)] at hd; cases hd
  obtain ⟨kr, hkr⟩ := read_total s (at_ := at_) (tp := tp) (by omega) (by omega) (fun i => (hG.pos i).1)
  obtain ⟨kf, j, hkf, hj1, hj2⟩ := find_total (a0 := a0) (a1 := a1) (a2 := a2) (n := n) hn (fun r hr => (hrs r hr).l1) hlen (s := s) (x := readL at_ tp) (by rw [readL_length]; exact hla)
  have e1 := up_of (g := fun k => commodatumref20_read.f k s at_ tp) (Ka.commodatumref20_read.mono s at_ tp) hkr kf
  have e2 := up_of (g := fun k => commodatumref20_Find.f k a0 a1 a2 rs s (readL at_ tp)) (Ka.commodatumref20_Find.mono a0 a1 a2 rs s (readL at_ tp)) hkf kr
  try simp only at e1 e2
  rw [Nat.add_comm kf kr] at e2
  refine ⟨kr + kf, decide (j < 0), by rw [if_neg h1, if_neg h2, e1, Option.bind_some, e2, Option.bind_some], fun hn0 => ?_, fun d hd => ?_⟩
  · rw [hsr] at hn0
    have hf : findR rs s (readL at_ tp) = none := by
      cases hf : findR rs s (readL at_ tp) with
      | none => rfl
      | some r => rw [hf] at hn0; cases hn0
    rw [hj1 hf]; rfl
  · rw [hsr] at hd
    cases hf : findR rs s (readL at_ tp) with
    | none => rw [hf] at hd; cases hd
    | some r => exact decide_eq_false (by have := hj2 r hf; omega)
theorem scene_l0 {a0 a1 a2 : Int} {rs : List S54} {s : Int} {at_ : List Int} {tp : List (List Int)} (ha1 : 2 ≤ a1 ∧ a1 ≤ 8) (ht : tp.length ≤ 1000000) (hf : ∀ x ∈ tp, x.length ≤ 1000000) : ∀ (n i : Nat), i + n = tp.length →
    Evt (fun k => commodatumref20_ValidScene.l0 k i a0 a1 a2 rs s at_ tp) (!(tp.drop i).any (rowB a1))
  | 0, i, hi => by
    refine ⟨1, fun k hk => ?_⟩
    obtain ⟨k', rfl⟩ : ∃ k', k = k' + 1 := ⟨k - 1, by omega⟩
    show commodatumref20_ValidScene.l0 (k' + 1) _ _ _ _ _ _ _ _ = _
    unfold commodatumref20_ValidScene.l0
    rw [if_neg (by omega), List.drop_of_length_le (by omega)]
    rfl
  | n + 1, i, hi => by
    have hil : i < tp.length := by omega
    have hr : rd_L1 tp (i : Int) = tp[i] := by unfold rd_L1; rw [Int.toNat_natCast, List.getD_eq_getElem?_getD, List.getElem?_eq_getElem hil]; rfl
    have hl := hf tp[i] (List.getElem_mem _)
    obtain ⟨K, hw⟩ := within_ev (l := tp[i]) tp[i].length 0 (a1 - 1) hl
    have ih := scene_l0 (a0 := a0) (a1 := a1) (a2 := a2) (rs := rs) (s := s) (at_ := at_) ha1 ht hf n (i + 1) (by omega)
    refine ih.up K (fun k hk hs => ?_)
    try simp only at hs
    have hwk : commodatumref20_within.f k tp[i] tp[i].length 0 (a1 - 1) = some (withinB tp[i] tp[i].length 0 (a1 - 1)) := hw k hk
    show commodatumref20_ValidScene.l0 (k + 1) _ _ _ _ _ _ _ _ = _
    unfold commodatumref20_ValidScene.l0
    rw [if_pos (by omega), if_pos (by omega), hr, w64_in (x := a1 - 1) (by omega) (by omega), w64_in (x := (i : Int) + 1) (by omega) (by omega), show ((i : Int) + 1) = ((i + 1 : Nat) : Int) by omega, hwk, hs, List.drop_eq_getElem_cons hil, List.any_cons]
    have hrow : withinB tp[i] tp[i].length 0 (a1 - 1) = !(tp[i].any (outB a1)) := by
      rw [Bool.eq_iff_iff, withinB_iff, Bool.not_eq_true', List.any_eq_false]
      constructor
      · rintro ⟨_, h2⟩ x hx
        obtain ⟨j, hj, rfl⟩ := List.getElem_of_mem hx
        have := h2 j hj
        rw [rd_nth hj] at this
        unfold outB
        simp only [Bool.or_eq_true, decide_eq_true_eq]
        omega
      · intro h2
        refine ⟨rfl, fun j hj => ?_⟩
        have := h2 _ (List.getElem_mem hj)
        rw [rd_nth hj]
        unfold outB at this
        simp only [Bool.or_eq_true, decide_eq_true_eq] at this
        omega
    by_cases c1 : (tp[i].length : Int) > 20001
    · rw [if_pos c1]
      have : rowB a1 tp[i] = true := by unfold rowB; rw [decide_eq_true (show 20001 < (tp[i].length : Int) by omega)]; rfl
      rw [this]; rfl
    rw [if_neg c1, Option.bind_some]
    have d1 : decide (20001 < (tp[i].length : Int)) = false := decide_eq_false (by omega)
    cases ho : tp[i].any (outB a1) with
    | true =>
      have : rowB a1 tp[i] = true := by unfold rowB; rw [ho]; simp
      rw [hrow, ho, if_neg (by decide), this]; rfl
    | false =>
      rw [hrow, ho, if_pos (by decide)]
      by_cases c2 : (tp[i].length : Int) > 0
      · rw [if_pos c2, w64_in (x := (tp[i].length : Int) - 1) (by omega) (by omega), if_pos (by omega), if_pos (by omega)]
        by_cases c3 : rd tp[i] ((tp[i].length : Int) - 1) = 0
        · have : rowB a1 tp[i] = true := by unfold rowB; rw [decide_eq_true (show 0 < (tp[i].length : Int) from c2), c3]; simp
          rw [if_pos c3, this]; rfl
        · have : rowB a1 tp[i] = false := by unfold rowB; rw [d1, ho, show (rd tp[i] ((tp[i].length : Int) - 1) == 0) = false by simpa using c3]; simp
          rw [if_neg c3, this]; rfl
      · have : rowB a1 tp[i] = false := by unfold rowB; rw [d1, ho, decide_eq_false (show ¬ (0 < (tp[i].length : Int)) from c2)]; rfl
        rw [if_neg c2, this]; rfl
theorem refScene_total {a0 a1 a2 : Int} {rs : List S54} {s : Int} {at_ : List Int} {tp : List (List Int)} (hv : validM a0 a1 a2 rs = true) (ha : at_.length ≤ 1000000) (ht : tp.length ≤ 1000000) (hf : ∀ x ∈ tp, x.length ≤ 1000000) :
    ∃ k, commodatumref20_ValidScene.f k a0 a1 a2 rs s at_ tp = some (sceneB a0 a1 a2 rs s at_ tp) := by
  obtain ⟨g0, g1, g2⟩ := valid_a2 hv
  unfold commodatumref20_ValidScene.f sceneB
  rw [hv]
  by_cases c1 : s < 0
  · refine ⟨1, ?_⟩
    rw [if_pos c1, decide_eq_true c1]
    rfl
  rw [decide_eq_false c1]
  by_cases c2 : s ≥ a0
  · refine ⟨1, ?_⟩
    rw [if_neg c1, if_pos c2, decide_eq_true (show a0 ≤ s from c2)]
    rfl
  rw [decide_eq_false (show ¬ (a0 ≤ s) from c2)]
  obtain ⟨K1, hw⟩ := within_ev (l := at_) a2 0 20000 ha
  obtain ⟨K2, hl⟩ := scene_l0 (a0 := a0) (a1 := a1) (a2 := a2) (rs := rs) (s := s) (at_ := at_) g1 ht hf tp.length 0 (by omega)
  have hrow : withinB at_ a2 0 20000 = (((at_.length : Int) == a2) && !at_.any outP) := by
    rw [Bool.eq_iff_iff, withinB_iff, Bool.and_eq_true, Bool.not_eq_true', List.any_eq_false, beq_iff_eq]
    constructor
    · rintro ⟨h1, h2⟩
      refine ⟨h1, fun x hx => ?_⟩
      obtain ⟨j, hj, rfl⟩ := List.getElem_of_mem hx
      have := h2 j hj
      rw [rd_nth hj] at this
      unfold outP
      simp only [Bool.or_eq_true, decide_eq_true_eq]
      omega
    · rintro ⟨h1, h2⟩
      refine ⟨h1, fun j hj => ?_⟩
      have := h2 _ (List.getElem_mem hj)
      rw [rd_nth hj]
      unfold outP at this
      simp only [Bool.or_eq_true, decide_eq_true_eq] at this
      omega
  have hwk : commodatumref20_within.f (max K1 K2 + 1) at_ a2 0 20000 = some (withinB at_ a2 0 20000) := hw _ (by omega)
  have hlk : commodatumref20_ValidScene.l0 (max K1 K2) 0 a0 a1 a2 rs s at_ tp = some (!tp.any (rowB a1)) := by have := hl (max K1 K2) (by omega); simpa using this
  refine ⟨max K1 K2 + 1, ?_⟩
  rw [if_neg c1, if_neg c2, hwk, Option.bind_some, hrow]
  have j0f : ∀ b : Bool, commodatumref20_ValidScene.j0 (max K1 K2 + 1) b a0 a1 a2 rs s at_ tp = if b = true then some false else commodatumref20_ValidScene.l0 (max K1 K2) 0 a0 a1 a2 rs s at_ tp := fun b => rfl
  rw [j0f, j0f, hlk]
  have hne : (((tp.length : Int)) != a2) = !(((tp.length : Int)) == a2) := rfl
  rw [hne]
  cases ((at_.length : Int) == a2) <;> cases at_.any outP <;> cases ((tp.length : Int) == a2) <;> simp
end Go.Proofs.Ytfoodfhhdbaieaa.Giv
