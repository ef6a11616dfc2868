/- All permutations of at most seven points, one by one. -/
import Derived.Test.YtjfhogholmabfaaPureB2
import Derived.Test.YtjfhogholmabfaaV7
import Derived.Test.YtjfhogholmabfaaV8
namespace Go.Proofs.Ytjfhogholmabfaa.Pure
set_option linter.unusedVariables false
set_option linter.unusedSimpArgs false
open Go.RowKit Go.Proofs.YtjfhogholmabfaaW.PrintWords Go.Proofs.YtjfhogholmabfaaW.PrintLast Go.Proofs.YtjfhogholmabfaaW.PrintMore
open Pa Giv

/-- f holds for every way of going on from acc by d points below n, none twice. -/
def allExt (n : Nat) (f : List Int → Bool) : Nat → List Int → Bool
  | 0, acc => f acc
  | d + 1, acc => (List.range n).all fun i => decide ((i : Int) ∈ acc) || allExt n f d (acc ++ [(i : Int)])
theorem allExt_mem {n : Nat} {f : List Int → Bool} {p : List Int} (hl : p.length = n) (hi : Into p n) (hn : p.Nodup) : ∀ d i, i + d = n → allExt n f d (p.take i) = true → f p = true
  | 0, i, h, ha => by
    rw [List.take_of_length_le (by omega)] at ha
    exact ha
  | d + 1, i, h, ha => by
    have hlt : i < p.length := by omega
    have hx := hi.at i hlt
    rw [getD_at _ _ hlt] at hx
    simp only [allExt, List.all_eq_true, List.mem_range, Bool.or_eq_true, decide_eq_true_eq] at ha
    have e : ((p[i].toNat : Nat) : Int) = p[i] := by omega
    have h1 := ha p[i].toNat (by omega)
    rw [e] at h1
    rcases h1 with h1 | h1
    · exfalso
      obtain ⟨j, hj, hje⟩ := List.mem_iff_getElem.1 h1
      rw [List.length_take] at hj
      rw [List.getElem_take] at hje
      have := nodup_at hn (i := j) (j := i) (by omega) hlt (by rw [getD_at _ _ (by omega), getD_at _ _ hlt]; exact hje)
      omega
    · refine allExt_mem hl hi hn d (i + 1) (by omega) ?_
      rw [List.take_succ_eq_append_getElem hlt]
      exact h1
end Go.Proofs.Ytjfhogholmabfaa.Pure
