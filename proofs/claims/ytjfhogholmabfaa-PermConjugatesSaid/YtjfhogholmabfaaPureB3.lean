/- The pure statement of PermConjugates: for all lists the printed function answers true. No condition. -/
import Derived.Test.YtjfhogholmabfaaPureB1
import Derived.Test.YtjfhogholmabfaaPax7
namespace Go.Proofs.Ytjfhogholmabfaa.Pure
set_option linter.unusedVariables false
set_option linter.unusedSimpArgs false
open Go.RowKit Go.Proofs.YtjfhogholmabfaaW.PrintWords Go.Proofs.YtjfhogholmabfaaW.PrintLast Go.Proofs.YtjfhogholmabfaaW.PrintMore
open Pa Giv

/-! ### conjugators -/
/-- The first c of rank i or more, of d ranks, with p c = c q. -/
def srch (p q : List Int) : Nat → Nat → Option (List Int)
  | 0, _ => none
  | d + 1, i => if mulL p (unr p.length i (idn p.length)) = mulL (unr p.length i (idn p.length)) q then some (unr p.length i (idn p.length)) else srch p q d (i + 1)
theorem conj_l0 {p q : List Int} (hp : validB p = true) (hq : validB q = true) (hl : p.length = q.length) : ∀ d i, i + d = fact p.length →
    Ev (fun k => perm_Conjugator.l0 k p q (fact p.length : Int) i) (match srch p q d i with | some c => (c, 0) | none => ([], 6))
  | 0, i, h => by
    refine EvS fun k => ?_
    simp only [perm_Conjugator.l0]
    rw [if_neg (by omega)]
    rfl
  | d + 1, i, h => by
    obtain ⟨a, b, c, _⟩ := valid_into hp
    obtain ⟨a', b', c', _⟩ := valid_into hq
    have hi : i < fact p.length := by omega
    have hf := fact_le7 p.length c
    have ih := conj_l0 hp hq hl d (i + 1) (by omega)
    have hcl := unr_len p.length i hi
    have hcv := valid_into (valid_unr b c hi)
    rw [hcl] at hcv
    refine Ev1 (f := fun k => (perm_unrank.f (p.length : Int) i).bind fun t363 => ((perm_mul.f k p t363).bind fun t366 => ((perm_mul.f k t363 q).bind fun t369 => ((api_Perm_int.f k t366 t369).bind fun t372 => (if t372 = true then (some (t363, (0 : Int))) else (perm_Conjugator.l0 k p q (fact p.length : Int) (wrap64 ((i : Int) + 1)))))))) ?_ (fun k => by simp only [perm_Conjugator.l0]; rw [if_pos (by omega)])
    simp only [perm_unrank_f p.length i b c hi, Option.bind_some]
    refine Ev.bind (perm_mul _ _ (by rw [hcl]; exact a) (by omega)) (Ev.bind (perm_mul _ _ (by rw [← hl]; exact hcv.1) (by rw [hcl]; omega)) (Ev.bind (equal _ _ (by rw [mulL_len]; omega)) ?_))
    simp only [srch]
    by_cases he : mulL p (unr p.length i (idn p.length)) = mulL (unr p.length i (idn p.length)) q
    · simp only [he, decide_true, if_true]
      exact Ev.now _
    · simp only [he, decide_false, Bool.false_eq_true, if_false, w64 i (by omega)]
      exact ih
theorem conj_ (p q : List Int) : Ev (fun k => perm_Conjugator.f k p q) (if alikeL p q = 0 then (match srch p q (fact p.length) 0 with | some c => (c, 0) | none => ([], 6)) else ([], alikeL p q)) := by
  simp only [perm_Conjugator.f]
  refine Ev.bind (both p q) ?_
  by_cases h : alikeL p q = 0
  · simp only [h, if_true]
    unfold alikeL at h
    split at h
    · rename_i hv
      obtain ⟨a, b, c, d⟩ := valid_into hv.1
      split at h
      · rename_i hl
        exact Ev.bind (factorial_ _ c) (conj_l0 hv.1 hv.2 hl (fact p.length) 0 (by omega))
      · omega
    · omega
  · simp only [h, if_false]
    exact Ev.now _
theorem conj_iff {p q c : List Int} (hp : validB p = true) (hq : validB q = true) (hc : validB c = true) (h1 : p.length = q.length) (h2 : c.length = p.length) : mulL (mulL (invL c) p) c = q ↔ mulL p c = mulL c q := by
  obtain ⟨ap, bp, cp, dp⟩ := valid_into hp
  obtain ⟨aq, bq, cq, dq⟩ := valid_into hq
  obtain ⟨ac, bc, cc, dc⟩ := valid_into hc
  have hi : Into (invL c) p.length := by rw [← h2]; exact into_inv bc
  rw [mul_assoc' c hi]
  constructor
  · intro h
    rw [← h, ← mul_assoc' _ (by rw [invL_len]; exact ac), mul_inv ac dc, show c.length = (mulL p c).length by rw [mulL_len, h2], id_mul]
  · intro h
    rw [h, ← mul_assoc' _ (by rw [← h2] at hi; exact hi), inv_mul ac dc, show c.length = q.length by omega, id_mul]
theorem ref_conj_l0 {p q : List Int} (hp : validB p = true) (hq : validB q = true) (hl : p.length = q.length) : ∀ d i, i + d = fact p.length →
    Ev (fun k => commodatumref01_Conjugator.l0 k p q i) (match srch p q d i with | some c => (c, true) | none => ([], false))
  | 0, i, h => by
    obtain ⟨a, b, c, _⟩ := valid_into hp
    refine Ev1 (f := fun k => (commodatumref01_Factorial.f k (p.length : Int)).bind fun t347 => (if (i : Int) < t347 then ((commodatumref01_Unrank.f k (p.length : Int) i).bind fun t348 => ((commodatumref01_Inverse.f k t348).bind fun t351 => ((commodatumref01_Mul.f k t351 p).bind fun t354 => ((commodatumref01_Mul.f k t354 t348).bind fun t357 => ((commodatumref01_Same.f k t357 q).bind fun t360 => (if t360 = true then (some (t348, true)) else (commodatumref01_Conjugator.l0 k p q (wrap64 ((i : Int) + 1))))))))) else (some (([] : List Int), false)))) ?_ (fun k => rfl)
    refine Ev.bind (ref_factorial _ c) ?_
    simp only [show ¬ (i : Int) < ((fact p.length : Nat) : Int) by omega, if_false]
    exact Ev.now _
  | d + 1, i, h => by
    obtain ⟨a, b, c, _⟩ := valid_into hp
    obtain ⟨a', b', c', _⟩ := valid_into hq
    have hi : i < fact p.length := by omega
    have hf := fact_le7 p.length c
    have ih := ref_conj_l0 hp hq hl d (i + 1) (by omega)
    have hcl := unr_len p.length i hi
    have hcv0 := valid_unr b c hi
    have hcv := valid_into hcv0
    refine Ev1 (f := fun k => (commodatumref01_Factorial.f k (p.length : Int)).bind fun t347 => (if (i : Int) < t347 then ((commodatumref01_Unrank.f k (p.length : Int) i).bind fun t348 => ((commodatumref01_Inverse.f k t348).bind fun t351 => ((commodatumref01_Mul.f k t351 p).bind fun t354 => ((commodatumref01_Mul.f k t354 t348).bind fun t357 => ((commodatumref01_Same.f k t357 q).bind fun t360 => (if t360 = true then (some (t348, true)) else (commodatumref01_Conjugator.l0 k p q (wrap64 ((i : Int) + 1))))))))) else (some (([] : List Int), false)))) ?_ (fun k => rfl)
    refine Ev.bind (ref_factorial _ c) ?_
    simp only [show (i : Int) < ((fact p.length : Nat) : Int) by omega, if_true]
    have hinto : Into (invL (unr p.length i (idn p.length))) p.length := by
      have := into_inv hcv.2.1
      rwa [hcl] at this
    refine Ev.bind (ref_unrank _ i c hi) (Ev.bind (ref_inverse _ hcv.1 (by rw [hcl]; omega)) (Ev.bind (ref_mul _ _ hinto (by rw [invL_len, hcl]; omega)) (Ev.bind (ref_mul _ _ (by rw [hcl]; exact into_mul a b) (by rw [mulL_len, invL_len, hcl]; omega)) (Ev.bind (same _ _ (by rw [mulL_len, mulL_len, invL_len, hcl]; omega)) ?_))))
    simp only [srch]
    have hiff := conj_iff hp hq hcv0 hl hcl
    by_cases he : mulL p (unr p.length i (idn p.length)) = mulL (unr p.length i (idn p.length)) q
    · rw [if_pos he]
      simp only [decide_eq_true (hiff.2 he), if_true]
      exact Ev.now _
    · rw [if_neg he]
      simp only [decide_eq_false (fun h => he (hiff.1 h)), Bool.false_eq_true, if_false, w64 i (by omega)]
      exact ih
theorem srch_len (p q : List Int) : ∀ d i c, i + d = fact p.length → srch p q d i = some c → c.length = p.length
  | 0, _, _, _, h => by cases h
  | d + 1, i, c, hd, h => by
    simp only [srch] at h
    split at h
    · rw [← Option.some.inj h]; exact unr_len _ _ (by omega)
    · exact srch_len p q d (i + 1) c (by omega) h
theorem alike_zero {p q : List Int} (h : alikeL p q = 0) : validB p = true ∧ validB q = true ∧ p.length = q.length := by
  unfold alikeL at h
  split at h
  · rename_i hv
    split at h
    · rename_i hl; exact ⟨hv.1, hv.2, hl⟩
    · omega
  · omega
theorem pure_PermConjugates : ∀ (l0 : List Int) (l1 : List Int), l0.length ≤ maxLen → l0.length * 8 ≤ 140737488351232 → (∀ x ∈ l0, (Lit.int .i64 x).wf = true) → l1.length ≤ maxLen → l1.length * 8 ≤ 140737488351232 → (∀ x ∈ l1, (Lit.int .i64 x).wf = true) → ∃ k, Pa.commodatumlaw01_PermConjugates.f k l0 l1 = some true := by
  intro p q _ _ _ _ _ _
  refine Ev.rounds (g := fun k => Pa.commodatumlaw01_PermConjugates.f k p q) ?_
  simp only [commodatumlaw01_PermConjugates.f]
  refine Ev.bind (short _ (by simp)) ?_
  by_cases hs : shortB [p, q] = true
  · simp only [hs, if_true]
    refine Ev.bind (alike p q) ?_
    have hc := conj_ p q
    by_cases h : alikeL p q = 0
    · obtain ⟨hp, hq, hl⟩ := alike_zero h
      obtain ⟨_, _, h7, _⟩ := valid_into hp
      have hr : Ev (fun k => commodatumref01_Conjugator.f k p q) (match srch p q (fact p.length) 0 with | some c => (c, true) | none => ([], false)) := ref_conj_l0 hp hq hl (fact p.length) 0 (by omega)
      simp only [h, if_true] at hc ⊢
      cases hm : srch p q (fact p.length) 0 with
      | none =>
        simp only [hm] at hc hr
        refine Ev.bind hr ?_
        simp only [Bool.false_eq_true, if_false]
        refine Ev.bind hc (Ev.bind (is_bad 6 (by omega) _) ?_)
        simp only [if_true]
        exact alive'
      | some c =>
        have hcl := srch_len p q _ _ c (by omega) hm
        simp only [hm] at hc hr
        refine Ev.bind hr ?_
        simp only [if_true]
        refine Ev.bind hc (Ev.bind (is_ok c (by omega)) ?_)
        simp only [if_true]
        exact alive'
    · simp only [h, if_false] at hc ⊢
      refine Ev.bind hc (Ev.bind (is_bad _ h _) ?_)
      simp only [if_true]
      exact alive'
  · simp only [hs, if_false]
    exact alive'

end Go.Proofs.Ytjfhogholmabfaa.Pure
