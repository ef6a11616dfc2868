-- CUT by a program of this session: what the claim does not use is left out
import Derived.Test.YtjfhogholmabfaaPureA
namespace Go.Proofs.Ytjfhogholmabfaa.Pure
set_option linter.unusedVariables false
set_option linter.unusedSimpArgs false
open Go.RowKit Go.Proofs.YtjfhogholmabfaaW.PrintWords Go.Proofs.YtjfhogholmabfaaW.PrintLast Go.Proofs.YtjfhogholmabfaaW.PrintMore
open Pa Giv

theorem to7 {P : Nat → Prop} {n : Nat} (h : n ≤ 7) (h0 : P 0) (h1 : P 1) (h2 : P 2) (h3 : P 3) (h4 : P 4) (h5 : P 5) (h6 : P 6) (h7 : P 7) : P n := by
  have : n = 0 ∨ n = 1 ∨ n = 2 ∨ n = 3 ∨ n = 4 ∨ n = 5 ∨ n = 6 ∨ n = 7 := by omega
  rcases this with rfl | rfl | rfl | rfl | rfl | rfl | rfl | rfl <;> assumption
theorem identity_ (n : Nat) (h : n ≤ 7) : Ev (fun k => perm_identity.f k n) (idn n) :=
  to7 (P := fun n => Ev (fun k => perm_identity.f k n) (idn n)) h
    (Ev.of (k := 10) (perm_identity.mono _) (by decide +kernel)) (Ev.of (k := 10) (perm_identity.mono _) (by decide +kernel)) (Ev.of (k := 10) (perm_identity.mono _) (by decide +kernel)) (Ev.of (k := 10) (perm_identity.mono _) (by decide +kernel)) (Ev.of (k := 10) (perm_identity.mono _) (by decide +kernel)) (Ev.of (k := 10) (perm_identity.mono _) (by decide +kernel)) (Ev.of (k := 10) (perm_identity.mono _) (by decide +kernel)) (Ev.of (k := 10) (perm_identity.mono _) (by decide +kernel))
theorem factorial_ (n : Nat) (h : n ≤ 7) : Ev (fun k => perm_factorial.f k n) (fact n : Int) :=
  to7 (P := fun n => Ev (fun k => perm_factorial.f k n) (fact n : Int)) h
    (Ev.of (k := 10) (perm_factorial.mono _) (by decide +kernel)) (Ev.of (k := 10) (perm_factorial.mono _) (by decide +kernel)) (Ev.of (k := 10) (perm_factorial.mono _) (by decide +kernel)) (Ev.of (k := 10) (perm_factorial.mono _) (by decide +kernel)) (Ev.of (k := 10) (perm_factorial.mono _) (by decide +kernel)) (Ev.of (k := 10) (perm_factorial.mono _) (by decide +kernel)) (Ev.of (k := 10) (perm_factorial.mono _) (by decide +kernel)) (Ev.of (k := 10) (perm_factorial.mono _) (by decide +kernel))
theorem perm_unrank_f (n r : Nat) (h1 : 1 ≤ n) (h7 : n ≤ 7) (hr : r < fact n) : perm_unrank.f n r = some (unr n r (idn n)) := by
  unfold perm_unrank.f
  rw [if_pos ⟨by omega, by omega, by omega, by simp; exact_mod_cast hr⟩]; rfl
theorem equal_l0 (x y : List Int) (hl : x.length = y.length) (hn : x.length < 100000000) : ∀ d i, i + d = x.length → Ev (fun k => api_Perm_int.l0 k x y x.length i) (decide (x.drop i = y.drop i))
  | 0, i, h => by
    rw [decide_eq_true (by rw [List.drop_of_length_le (by omega), List.drop_of_length_le (by omega)])]
    refine EvS fun k => ?_
    simp only [api_Perm_int.l0]
    rw [if_neg (by omega)]
  | d + 1, i, h => by
    have h1 : i < x.length := by omega
    have h2 : i < y.length := by omega
    have e : (x.drop i = y.drop i) = (x[i] = y[i] ∧ x.drop (i + 1) = y.drop (i + 1)) := by
      rw [List.drop_eq_getElem_cons h1, List.drop_eq_getElem_cons h2, List.cons.injEq]
    by_cases he : x[i] = y[i]
    · have ih := equal_l0 x y hl hn d (i + 1) (by omega)
      rw [decide_eq_decide.2 (show (x.drop i = y.drop i) ↔ x.drop (i + 1) = y.drop (i + 1) by rw [e]; simp [he])]
      refine Ev1 ih fun k => ?_
      simp only [api_Perm_int.l0]
      rw [if_pos (by omega), if_pos (by omega), if_pos (by omega), if_pos (by omega), rd_at _ _ h1, rd_at _ _ h2, if_pos he, w64 _ (by omega)]
    · rw [decide_eq_false (by rw [e]; simp [he])]
      refine EvS fun k => ?_
      simp only [api_Perm_int.l0]
      rw [if_pos (by omega), if_pos (by omega), if_pos (by omega), if_pos (by omega), rd_at _ _ h1, rd_at _ _ h2, if_neg he]
theorem equal (x y : List Int) (hn : x.length < 100000000) : Ev (fun k => api_Perm_int.f k x y) (decide (x = y)) := by
  by_cases hl : x.length = y.length
  · have h := equal_l0 x y hl hn x.length 0 (by omega)
    refine EvC h fun k => ?_
    simp only [api_Perm_int.f]
    rw [if_pos (by omega)]; rfl
  · rw [decide_eq_false (by rintro rfl; exact hl rfl)]
    refine EvC (Ev.now false) fun k => ?_
    simp only [api_Perm_int.f]
    rw [if_neg (by omega)]
end Go.Proofs.Ytjfhogholmabfaa.Pure
