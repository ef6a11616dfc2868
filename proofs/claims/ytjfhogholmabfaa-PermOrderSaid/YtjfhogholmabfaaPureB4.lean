/- The pure statement of PermGroup: for all lists the printed function answers true. No condition. -/
import Derived.Test.YtjfhogholmabfaaPureB0
import Derived.Test.YtjfhogholmabfaaPax8
import Derived.Test.YtjfhogholmabfaaPax9
namespace Go.Proofs.Ytjfhogholmabfaa.Pure
set_option linter.unusedVariables false
set_option linter.unusedSimpArgs false
open Go.RowKit Go.Proofs.YtjfhogholmabfaaW.PrintWords Go.Proofs.YtjfhogholmabfaaW.PrintLast Go.Proofs.YtjfhogholmabfaaW.PrintMore
open Pa Giv

/-! ### the group -/
def usableL (l : List (List Int)) (n : Nat) : Bool := decide (∀ x ∈ l, validB x = true ∧ x.length = n)
theorem usable_cons (y : List Int) (l : List (List Int)) (n : Nat) : usableL (y :: l) n = ((validB y && decide (y.length = n)) && usableL l n) := by
  rw [Bool.eq_iff_iff]
  simp [usableL, and_assoc]
theorem usable_l0 (x : List (List Int)) (h0 : 0 < x.length) (hn : x.length < 1000) : ∀ d i, i + d = x.length → Ev (fun k => commodatumlaw01_usable.l0 k x i) (usableL (x.drop i) (x[0].length))
  | 0, i, h => by
    rw [List.drop_of_length_le (by omega)]
    refine EvS fun k => ?_
    simp only [commodatumlaw01_usable.l0]
    rw [if_neg (by omega)]
    simp [usableL]
  | d + 1, i, h => by
    have h1 : i < x.length := by omega
    have ih := usable_l0 x h0 hn d (i + 1) (by omega)
    have e0 : rd_L1 x 0 = x[0] := rd_L1_at x 0 h0
    rw [List.drop_eq_getElem_cons h1]
    by_cases hv : validB x[i] = true
    · by_cases hl : x[i].length = x[0].length
      · have e : usableL (x[i] :: x.drop (i + 1)) x[0].length = usableL (x.drop (i + 1)) x[0].length := by
          rw [usable_cons, hv, decide_eq_true hl]; rfl
        rw [e]
        refine Ev1 ih fun k => ?_
        simp only [commodatumlaw01_usable.l0]
        rw [if_pos (by omega), if_pos (by omega), rd_L1_at _ _ h1, e0]
        simp only [perm_Valid.f, hv, Option.bind_some, if_true]
        rw [if_pos (by omega), if_pos (by omega), if_neg (by have := (valid_into hv).2.2.1; omega), w64 _ (by omega)]
      · have e : usableL (x[i] :: x.drop (i + 1)) x[0].length = false := by
          rw [usable_cons, decide_eq_false hl]; simp
        rw [e]
        refine EvS fun k => ?_
        simp only [commodatumlaw01_usable.l0]
        rw [if_pos (by omega), if_pos (by omega), rd_L1_at _ _ h1, e0]
        simp only [perm_Valid.f, hv, Option.bind_some, if_true]
        rw [if_pos (by omega), if_neg (by omega)]
    · simp only [Bool.not_eq_true] at hv
      have e : usableL (x[i] :: x.drop (i + 1)) x[0].length = false := by
        rw [usable_cons, hv]; rfl
      rw [e]
      refine EvS fun k => ?_
      simp only [commodatumlaw01_usable.l0]
      rw [if_pos (by omega), if_pos (by omega), rd_L1_at _ _ h1]
      simp only [perm_Valid.f, hv, Option.bind_some, Bool.false_eq_true, if_false]
theorem usable_ (p : List Int) (r : List (List Int)) (hn : r.length < 900) : Ev (fun k => commodatumlaw01_usable.f k (p :: r)) (usableL (p :: r) p.length) := by
  simp only [commodatumlaw01_usable.f]
  refine Ev.bind (short _ (by simp; omega)) ?_
  by_cases hs : shortB (p :: r) = true
  · simp only [hs, if_true]
    have := usable_l0 (p :: r) (by simp) (by simp; omega) (p :: r).length 0 (by omega)
    simpa using this
  · simp only [hs, if_false]
    have e : usableL (p :: r) p.length = false := by
      cases hu : usableL (p :: r) p.length with
      | false => rfl
      | true =>
        exfalso
        apply hs
        have hu := of_decide_eq_true hu
        have : ∀ l : List (List Int), (∀ x ∈ l, validB x = true) → shortB l = true := by
          intro l
          induction l with
          | nil => intro _; rfl
          | cons y l ih =>
            intro h
            have := (valid_into (h y List.mem_cons_self)).2.2.1
            simp only [shortB, ih (fun x hx => h x (List.mem_cons_of_mem _ hx)), Bool.and_true]
            exact decide_eq_true (by omega)
        exact this _ (fun x hx => (hu x hx).1)
    rw [e]
    exact Ev.now _
theorem law_mul {p q : List Int} (hp : validB p = true) (hq : validB q = true) (hl : p.length = q.length) : Ev (fun k => commodatumlaw01_mul.f k p q) (mulL p q) := by
  have h : alikeL p q = 0 := by unfold alikeL; rw [if_pos ⟨hp, hq⟩, if_pos hl]
  have := perm_Mul p q
  simp only [h, if_true] at this
  simp only [commodatumlaw01_mul.f]
  refine Ev.bind this ?_
  simp only [if_true]
  exact Ev.now _
theorem same_eq {x y : List Int} (h : x = y) (hn : x.length < 100000000) : Ev (fun k => commodatumref01_Same.f k x y) true := by
  have := same x y hn
  rwa [decide_eq_true h] at this
theorem perm_Inverse_ {p : List Int} (hp : validB p = true) : Ev (fun k => perm_Inverse.f k p) (invL p, 0) := by
  obtain ⟨a, b, c, d⟩ := valid_into hp
  simp only [perm_Inverse.f, perm_Valid.f, Option.bind_some, hp, if_true]
  exact Ev.bind (perm_inverse p a (by omega)) (Ev.now _)
end Go.Proofs.Ytjfhogholmabfaa.Pure
