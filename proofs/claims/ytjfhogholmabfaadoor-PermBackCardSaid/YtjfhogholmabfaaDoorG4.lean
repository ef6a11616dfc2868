-- CUT by a program of this session: what the claim does not use is left out
import Derived.Test.YtjfhogholmabfaaDoorG3
namespace Go.Proofs.YtjfhogholmabfaaDoor.Pure
set_option linter.unusedVariables false
set_option linter.unusedSimpArgs false
open Go.RowKit Go.Proofs.YtjfhogholmabfaaDoorW.PrintWords Go.Proofs.YtjfhogholmabfaaDoorW.PrintLast Go.Proofs.YtjfhogholmabfaaDoorW.PrintMore
open Pa Giv
theorem rd_one (l : List Int) : rd_L1 [l] 0 = l := rfl
theorem short_one (l : List Int) : Ev (fun k => commodatumlaw01_short.f k [l]) (decide (l.length ≤ 100)) := by
  have h := short [l] (by simp)
  simpa [shortB] using h
theorem valid_f (l : List Int) : perm_Valid.f l = some (validB l) := rfl
theorem usable_ (l : List Int) : Ev (fun k => commodatumlaw01_usable.f k [l]) (validB l) := by
  have hs := short_one l
  simp only [commodatumlaw01_usable.f]
  by_cases hv : validB l = true
  · obtain ⟨h1, h7, _⟩ := of_decide_eq_true hv
    rw [decide_eq_true (by omega)] at hs
    refine Ev.bind hs ?_
    rw [hv]
    simp only [if_true]
    refine Ev1 (f := fun k => commodatumlaw01_usable.l0 k [l] 1) (EvS fun k => ?_) fun k => ?_
    · simp only [commodatumlaw01_usable.l0]
      rw [if_neg (by simp)]
    · simp only [commodatumlaw01_usable.l0, rd_one, valid_f, hv, Option.bind_some]
      rw [if_pos (by simp), if_pos (by omega), if_pos trivial, if_pos (by simp), if_pos trivial]
      have h7b : ¬ ((l.length : Int) > 7) := by omega
      simp only [h7b, if_false]
      rw [show wrap64 (0 + 1) = 1 from w64 0 (by omega)]
  · have hv' : validB l = false := by simpa using hv
    by_cases hl : l.length ≤ 100
    · rw [decide_eq_true hl] at hs
      refine Ev.bind hs ?_
      simp only [if_true]
      rw [hv']
      refine EvS fun k => ?_
      simp only [commodatumlaw01_usable.l0, rd_one, valid_f, hv', Option.bind_some]
      rw [if_pos (by simp), if_pos (by omega), if_neg (by simp)]
    · rw [decide_eq_false hl] at hs
      refine Ev.bind hs ?_
      rw [hv']
      simpa using Ev.now false
theorem back_j0 (s : ByteArray) (hs : s.size ≤ 2000) (n : Int) : Ev (fun k => commodatumlaw01_PermBack.j0 k s n) true := by
  by_cases hn : n < 1 ∨ 7 < n
  · refine Ev1 alive' fun k => ?_
    simp only [commodatumlaw01_PermBack.j0, parse_out (show s.size ≤ 100000 by omega) hn, Option.bind_some]
    simp
  · obtain ⟨m, rfl⟩ : ∃ m : Nat, n = m := ⟨n.toNat, by omega⟩
    by_cases hp : ∃ p, Said_ m s p
    · obtain ⟨p, hp⟩ := hp
      refine Ev1 alive' fun k => ?_
      simp only [commodatumlaw01_PermBack.j0, parse_yes hp, Option.bind_some]
      obtain ⟨hv, rfl, rfl⟩ := hp
      simp [perm_Text.f, hv]
    · refine Ev1 alive' fun k => ?_
      simp only [commodatumlaw01_PermBack.j0, parse_no (show s.size ≤ 100000 by omega) (show 1 ≤ m by omega) (by omega) (fun p h => hp ⟨p, h⟩), Option.bind_some]
      simp
theorem pure_PermBack (l : List Int) (s : ByteArray) (n : Int) (_ : l.length ≤ maxLen) (_ : l.length * 8 ≤ 140737488351232) (_ : ∀ x ∈ l, (Lit.int .i64 x).wf = true) (_ : s.size ≤ 140737488351232) (_ : (Lit.int .i64 n).wf = true) : ∃ k, commodatumlaw01_PermBack.f k l s n = some true := by
  refine Ev.rounds (g := fun k => commodatumlaw01_PermBack.f k l s n) ?_
  simp only [commodatumlaw01_PermBack.f]
  by_cases h2 : (s.size : Int) > 2000
  · simp only [if_pos h2]
    exact alive'
  · simp only [if_neg h2]
    have hj := back_j0 s (by omega) n
    refine Ev.bind (usable_ l) ?_
    by_cases hv : validB l = true
    · have hp : Said_ l.length (textR l) l := ⟨hv, rfl, rfl⟩
      have ht : perm_Text.f l = some (textR l, 0) := by simp [perm_Text.f, hv]
      simp only [hv, if_true, ht, Option.bind_some, parse_yes hp]
      have hs := same l l (by have := (of_decide_eq_true hv).2.1; omega)
      refine Ev.bind hs ?_
      simpa using hj
    · simp only [hv]
      exact hj
end Go.Proofs.YtjfhogholmabfaaDoor.Pure
