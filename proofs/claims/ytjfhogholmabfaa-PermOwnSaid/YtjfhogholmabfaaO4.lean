-- CUT by a program of this session: what the claim does not use is left out
import Derived.Test.YtjfhogholmabfaaO3
import Derived.Test.YtjfhogholmabfaaPureB2
import Derived.Test.YtjfhogholmabfaaPureB3
namespace Go.Proofs.Ytjfhogholmabfaa.Giv
set_option linter.unusedVariables false
set_option linter.unusedSimpArgs false
open Go.RowKit Go.Proofs.YtjfhogholmabfaaW.PrintWords Go.Proofs.YtjfhogholmabfaaW.PrintLast Go.Proofs.YtjfhogholmabfaaW.PrintMore
open Go.Proofs.Ytjfhogholmabfaa.Pure
open Go.Proofs.Ytjfhogholmabfaa.Pa

theorem all_ev {α : Type} {g : Nat → α → Option Unit} : ∀ (l : List α), (∀ x ∈ l, Ev (fun k => g k x) ()) → ∃ K, ∀ k, K ≤ k → ∀ x ∈ l, g k x = some ()
  | [], _ => ⟨0, fun _ _ x hx => by cases hx⟩
  | x :: l, h => by
    obtain ⟨K1, h1⟩ := h x List.mem_cons_self
    obtain ⟨K2, h2⟩ := all_ev l (fun y hy => h y (List.mem_cons_of_mem _ hy))
    refine ⟨K1 + K2, fun k hk y hy => ?_⟩
    rcases List.mem_cons.1 hy with rfl | hy
    · exact h1 k (by omega)
    · exact h2 k (by omega) y hy
theorem alike_valid {p q : List Int} (h : alikeL p q = 0) : p.length ≤ 7 ∧ q.length ≤ 7 := by
  obtain ⟨h1, h2, _⟩ := alike_zero h
  exact ⟨(valid_into h1).2.2.1, (valid_into h2).2.2.1⟩
theorem mul_ex (p q : List Int) : ∃ r e, Ev (fun k => perm_Mul.f k p q) (r, e) ∧ r.length ≤ 7 := by
  have h := perm_Mul p q
  by_cases c : alikeL p q = 0
  · rw [if_pos c] at h
    exact ⟨_, _, h, by rw [mulL_len]; exact (alike_valid c).1⟩
  · rw [if_neg c] at h
    exact ⟨_, _, h, by simp⟩
theorem com_ex (p q : List Int) : ∃ r e, Ev (fun k => perm_Commutator.f k p q) (r, e) ∧ r.length ≤ 7 := by
  have h := perm_Commutator p q
  by_cases c : alikeL p q = 0
  · rw [if_pos c] at h
    exact ⟨_, _, h, by rw [commL, mulL_len, mulL_len, invL_len]; exact (alike_valid c).1⟩
  · rw [if_neg c] at h
    exact ⟨_, _, h, by simp⟩
theorem inv_ex (p : List Int) : ∃ r e, Ev (fun k => perm_Inverse.f k p) (r, e) ∧ r.length ≤ 7 := by
  by_cases hp : validB p = true
  · obtain ⟨a, b, c, d⟩ := valid_into hp
    refine ⟨invL p, 0, ?_, by rw [invL_len]; exact c⟩
    simp only [perm_Inverse.f, perm_Valid.f, Option.bind_some, hp, if_true]
    exact Ev.bind (perm_inverse p a (by omega)) (Ev.now _)
  · refine ⟨[], 1, ?_, by simp⟩
    simp only [perm_Inverse.f, perm_Valid.f, Option.bind_some, hp, if_false]
    exact Ev.now _
theorem pow_ex (p : List Int) (a : Int) : ∃ r e, Ev (fun k => perm_Power.f k p a) (r, e) ∧ r.length ≤ 7 := by
  by_cases hp : validB p = true
  · obtain ⟨o, ho⟩ := ord_ex hp
    obtain ⟨_, b, c, d⟩ := valid_into hp
    exact ⟨_, _, power_ hp ho a, by rw [powL_len]; exact c⟩
  · refine ⟨[], 1, ?_, by simp⟩
    simp only [perm_Power.f, perm_Valid.f, Option.bind_some, hp, if_false]
    exact Ev.now _
theorem con_ex (p q : List Int) : ∃ r e, Ev (fun k => perm_Conjugator.f k p q) (r, e) ∧ r.length ≤ 7 := by
  have h := conj_ p q
  by_cases c : alikeL p q = 0
  · rw [if_pos c] at h
    cases hs : srch p q (fact p.length) 0 with
    | none => rw [hs] at h; exact ⟨_, _, h, by simp⟩
    | some x =>
      rw [hs] at h
      exact ⟨_, _, h, by rw [srch_len p q _ _ _ (by omega) hs]; exact (alike_valid c).1⟩
  · rw [if_neg c] at h
    exact ⟨_, _, h, by simp⟩
theorem same_ev (x : List Int) (hn : x.length < 100000000) : Ev (fun k => commodatumref01_Same.f k x x) true := by
  have := same x x hn
  simpa using this
theorem res_ex (p q : List Int) (a : Int) (hp : p.length ≤ 1000) (hq : q.length ≤ 1000) : ∃ K r em ec ei ep ej cy, Res K p q a r em ec ei ep ej cy ∧ commodatumlaw01_short.f K [p, q] = some (shortB [p, q]) := by
  obtain ⟨m, em, hm, lm⟩ := mul_ex p q
  obtain ⟨c, ec, hc, lc⟩ := com_ex p q
  obtain ⟨v, ei, hv, lv⟩ := inv_ex p
  obtain ⟨w, ep, hw, lw⟩ := pow_ex p a
  obtain ⟨j, ej, hj, lj⟩ := con_ex p q
  obtain ⟨cy, hcy⟩ : ∃ cy, perm_Cycles.f p = some cy := ⟨_, rfl⟩
  have hcy1 : cy.length ≤ 1000 ∧ ∀ x ∈ cy, x.length ≤ 8 := by
    unfold perm_Cycles.f at hcy
    injection hcy with hcy
    subst hcy
    split
    · exact ⟨Nat.le_trans (cyc_count p _ _ _) hp, fun x hx => cyc_len p _ _ _ x hx⟩
    · exact ⟨by simp, fun x hx => by cases hx⟩
  obtain ⟨r, hr⟩ : ∃ r : Nat → List Int, r = fun | 0 => m | 1 => c | 2 => v | 3 => w | _ => j := ⟨_, rfl⟩
  have hlen : ∀ i, (r i).length ≤ 7 := fun i => by
    subst hr
    rcases i with _ | _ | _ | _ | i <;> assumption
  obtain ⟨K1, h1⟩ := hm
  obtain ⟨K2, h2⟩ := hc
  obtain ⟨K3, h3⟩ := hv
  obtain ⟨K4, h4⟩ := hw
  obtain ⟨K5, h5⟩ := hj
  obtain ⟨K6, h6⟩ := all_ev (g := fun k x => commodatumlaw01_SpoilInts.f k x) cy (fun x hx => spoilInts x (by have := hcy1.2 x hx; omega))
  obtain ⟨K7, h7⟩ := all_ev (g := fun k (i : Nat) => commodatumlaw01_Spoil.f k (r i)) (List.range 5) (fun i _ => spoil (r i) (by have := hlen i; omega))
  obtain ⟨K8, h8⟩ := all_ev (g := fun k (i : Nat) => (commodatumref01_Same.f k (r i) (r i)).bind fun b => if b = true then some () else none) (List.range 5) (fun i _ => by
    refine Ev.bind (same_ev (r i) (by have := hlen i; omega)) ?_
    simp only [if_true]
    exact Ev.now _)
  obtain ⟨K9, h9⟩ := same_ev p (by omega)
  obtain ⟨K10, h10⟩ := same_ev q (by omega)
  obtain ⟨K11, h11⟩ := alive
  obtain ⟨K12, h12⟩ := short [p, q] (by simp)
  obtain ⟨K, hK⟩ : ∃ K, K = K1 + K2 + K3 + K4 + K5 + K6 + K7 + K8 + K9 + K10 + K11 + K12 := ⟨_, rfl⟩
  refine ⟨K, r, em, ec, ei, ep, ej, cy, ⟨?_, ?_, ?_, ?_, ?_, hcy, fun i _ => by have := hlen i; omega, by omega, by omega, by omega, fun i hi => ?_, h9 K (by omega), h10 K (by omega), fun i hi => h7 K (by omega) i (List.mem_range.2 hi), h6 K (by omega), h11 K (by omega)⟩, h12 K (by omega)⟩
  · subst hr; exact h1 K (by omega)
  · subst hr; exact h2 K (by omega)
  · subst hr; exact h3 K (by omega)
  · subst hr; exact h4 K (by omega)
  · subst hr; exact h5 K (by omega)
  · have := h8 K (by omega) i (List.mem_range.2 hi)
    obtain ⟨b, hb, hb2⟩ := Option.bind_eq_some_iff.1 this
    cases b with
    | true => exact hb
    | false => simp at hb2
theorem short_long (p q : List Int) (h : ¬ (p.length ≤ 1000 ∧ q.length ≤ 1000)) : ∃ K, commodatumlaw01_short.f K [p, q] = some false ∧ commodatumlaw01_alive.f K = some true := by
  obtain ⟨K11, h11⟩ := alive
  obtain ⟨K12, h12⟩ := short [p, q] (by simp)
  have hs : shortB [p, q] = false := by
    simp [shortB]
    omega
  exact ⟨K11 + K12, (h12 _ (by omega)).trans (by rw [hs]), h11 _ (by omega)⟩
theorem permOwn_calls (A0 : Option Addr) (c0 : Nat) (l0 : List Int) (A1 : Option Addr) (c1 : Nat) (l1 : List Int) (a2 : Int) (w : World) (hr0 : Kd.C (Kd.int .i64) w A0 l0.length l0) (hc0 : l0.length ≤ c0) (hr1 : Kd.C (Kd.int .i64) w A1 l1.length l1) (hc1 : l1.length ≤ c1) :
    Calls Try.prog 12 #[.slice A0 l0.length c0, .slice A1 l1.length c1, .int .i64 a2] w fun e w' => e = .returned (.bool true) ∧ Below w.heap.size w w' := by
  by_cases h : l0.length ≤ 1000 ∧ l1.length ≤ 1000
  · obtain ⟨K, r, em, ec, ei, ep, ej, cy, hR, hs⟩ := res_ex l0 l1 a2 h.1 h.2
    cases hb : shortB [l0, l1] with
    | true => rw [hb] at hs; exact permOwn_short K A0 c0 l0 A1 c1 l1 a2 w hr0 hc0 hr1 hc1 hs hR
    | false => rw [hb] at hs; exact permOwn_long K A0 c0 l0 A1 c1 l1 a2 w hr0 hc0 hr1 hc1 hs hR.alive
  · obtain ⟨K, h1, h2⟩ := short_long l0 l1 h
    exact permOwn_long K A0 c0 l0 A1 c1 l1 a2 w hr0 hc0 hr1 hc1 h1 h2
end Go.Proofs.Ytjfhogholmabfaa.Giv
