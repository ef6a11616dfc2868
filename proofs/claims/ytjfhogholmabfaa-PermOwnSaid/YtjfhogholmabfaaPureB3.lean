-- CUT by a program of this session: what the claim does not use is left out
import Derived.Test.YtjfhogholmabfaaPureB1
import Derived.Test.YtjfhogholmabfaaPax7
namespace Go.Proofs.Ytjfhogholmabfaa.Pure
set_option linter.unusedVariables false
set_option linter.unusedSimpArgs false
open Go.RowKit Go.Proofs.YtjfhogholmabfaaW.PrintWords Go.Proofs.YtjfhogholmabfaaW.PrintLast Go.Proofs.YtjfhogholmabfaaW.PrintMore
open Pa Giv

def srch (p q : List Int) : Nat → Nat → Option (List Int)
  | 0, _ => none
  | d + 1, i => if mulL p (unr p.length i (idn p.length)) = mulL (unr p.length i (idn p.length)) q then some (unr p.length i (idn p.length)) else srch p q d (i + 1)
theorem conj_l0 {p q : List Int} (hp : validB p = true) (hq : validB q = true) (hl : p.length = q.length) : ∀ d i, i + d = fact p.length →
    Ev (fun k => perm_Conjugator.l0 k p q (fact p.length : Int) i) (match srch p q d i with | some c => (c, 0) | none => ([], 6))
  | 0, i, h => by
    refine EvS fun k => ?_
    simp only [perm_Conjugator.l0]
    rw [if_neg (by omega)]
    rfl
  | d + 1, i, h => by
    obtain ⟨a, b, c, _⟩ := valid_into hp
    obtain ⟨a', b', c', _⟩ := valid_into hq
    have hi : i < fact p.length := by omega
    have hf := fact_le7 p.length c
    have ih := conj_l0 hp hq hl d (i + 1) (by omega)
    have hcl := unr_len p.length i hi
    have hcv := valid_into (valid_unr b c hi)
    rw [hcl] at hcv
    refine Ev1 (f := fun k => (perm_unrank.f (p.length : Int) i).bind fun t363 => ((perm_mul.f k p t363).bind fun t366 => ((perm_mul.f k t363 q).bind fun t369 => ((api_Perm_int.f k t366 t369).bind fun t372 => (if t372 = true then (some (t363, (0 : Int))) else (perm_Conjugator.l0 k p q (fact p.length : Int) (wrap64 ((i : Int) + 1)))))))) ?_ (fun k => by simp only [perm_Conjugator.l0]; rw [if_pos (by omega)])
    simp only [perm_unrank_f p.length i b c hi, Option.bind_some]
    refine Ev.bind (perm_mul _ _ (by rw [hcl]; exact a) (by omega)) (Ev.bind (perm_mul _ _ (by rw [← hl]; exact hcv.1) (by rw [hcl]; omega)) (Ev.bind (equal _ _ (by rw [mulL_len]; omega)) ?_))
    simp only [srch]
    by_cases he : mulL p (unr p.length i (idn p.length)) = mulL (unr p.length i (idn p.length)) q
    · simp only [he, decide_true, if_true]
      exact Ev.now _
    · simp only [he, decide_false, Bool.false_eq_true, if_false, w64 i (by omega)]
      exact ih
theorem conj_ (p q : List Int) : Ev (fun k => perm_Conjugator.f k p q) (if alikeL p q = 0 then (match srch p q (fact p.length) 0 with | some c => (c, 0) | none => ([], 6)) else ([], alikeL p q)) := by
  simp only [perm_Conjugator.f]
  refine Ev.bind (both p q) ?_
  by_cases h : alikeL p q = 0
  · simp only [h, if_true]
    unfold alikeL at h
    split at h
    · rename_i hv
      obtain ⟨a, b, c, d⟩ := valid_into hv.1
      split at h
      · rename_i hl
        exact Ev.bind (factorial_ _ c) (conj_l0 hv.1 hv.2 hl (fact p.length) 0 (by omega))
      · omega
    · omega
  · simp only [h, if_false]
    exact Ev.now _
theorem srch_len (p q : List Int) : ∀ d i c, i + d = fact p.length → srch p q d i = some c → c.length = p.length
  | 0, _, _, _, h => by cases h
  | d + 1, i, c, hd, h => by
    simp only [srch] at h
    split at h
    · rw [← Option.some.inj h]; exact unr_len _ _ (by omega)
    · exact srch_len p q d (i + 1) c (by omega) h
theorem alike_zero {p q : List Int} (h : alikeL p q = 0) : validB p = true ∧ validB q = true ∧ p.length = q.length := by
  unfold alikeL at h
  split at h
  · rename_i hv
    split at h
    · rename_i hl; exact ⟨hv.1, hv.2, hl⟩
    · omega
  · omega
end Go.Proofs.Ytjfhogholmabfaa.Pure
