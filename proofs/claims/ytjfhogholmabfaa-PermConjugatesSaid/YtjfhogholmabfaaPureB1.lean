/- The pure statement of PermMakes: for all numbers the printed function answers true. No condition. -/
import Derived.Test.YtjfhogholmabfaaPureB0
import Derived.Test.YtjfhogholmabfaaPax5
namespace Go.Proofs.Ytjfhogholmabfaa.Pure
set_option linter.unusedVariables false
set_option linter.unusedSimpArgs false
open Go.RowKit Go.Proofs.YtjfhogholmabfaaW.PrintWords Go.Proofs.YtjfhogholmabfaaW.PrintLast Go.Proofs.YtjfhogholmabfaaW.PrintMore
open Pa Giv

theorem wnat (q : Nat) (h : q < 100000000) : wrap64 ((q : Int)) = (q : Int) := by unfold wrap64; omega
/-- What one round does, told over plain numbers. -/
theorem ref_unrank_round (n i d r f q s : Nat) (h7 : n ≤ 7) (h : i + (d + 1) = n) (xs ys : List Int) (hx : xs.length = d + 1) (hy : ys.length = i) (hq : q < d + 1) (hf : 1 ≤ f) (k : Nat) :
    wrap64 (Int.tdiv (r : Int) (f : Int)) = (q : Int) → Int.tmod (r : Int) (f : Int) = (s : Int) → commodatumref01_Factorial.f k (d : Int) = some (f : Int) →
    commodatumref01_Unrank.l0 (k + 1) n r xs ys i = commodatumref01_Unrank.l0 k n s (xs.eraseIdx q) (ys ++ [xs.getD q 0]) ((i + 1 : Nat) : Int) := by
  have e0 : wrap64 ((wrap64 ((n : Int) - 1)) - (i : Int)) = ((d : Nat) : Int) := by unfold wrap64; omega
  have e3 := w64 q (by omega)
  have e4 := w64 i (by omega)
  have a1 : (i : Int) < (n : Int) := by omega
  have a2 : ¬ (f : Int) = 0 := by omega
  have a3 : 0 ≤ (q : Int) := by omega
  have a4 : (q : Int) < (xs.length : Int) := by omega
  have a5 : ys.length < 17592186044416 := by omega
  have a6 : (q : Int) ≤ (xs.length : Int) := by omega
  have a7 : ([] : List Int).length + (xs.take q).length < 17592186044416 := by simp; omega
  have a8 : 0 ≤ ((q + 1 : Nat) : Int) := by omega
  have a9 : ((q + 1 : Nat) : Int) ≤ (xs.length : Int) := by omega
  have a10 : ([] ++ xs.take q).length + (xs.drop (q + 1)).length < 17592186044416 := by simp; omega
  intro e1 e2 hk
  simp only [commodatumref01_Unrank.l0]
  rw [if_pos a1, e0, hk]
  simp only [Option.bind_some]
  rw [if_neg a2, e1, if_pos a3, if_pos a4, if_pos a5, if_pos a6, show ((q : Int)).toNat = q from rfl]
  rw [if_pos a7, e3, if_pos a8, if_pos a9, e2, e4]
  rw [show (((q + 1 : Nat) : Int)).toNat = q + 1 from rfl, if_pos a10, List.nil_append, ← List.eraseIdx_eq_take_drop_succ]
  rfl
theorem ref_unrank_none (n i d r : Nat) (h7 : n ≤ 7) (h : i + (d + 1) = n) (xs ys : List Int) (k : Nat) (hk : commodatumref01_Factorial.f k (d : Int) = none) :
    commodatumref01_Unrank.l0 (k + 1) n r xs ys i = none := by
  have e0 : wrap64 ((wrap64 ((n : Int) - 1)) - (i : Int)) = ((d : Nat) : Int) := by unfold wrap64; omega
  simp only [commodatumref01_Unrank.l0]
  rw [if_pos (by omega), e0, hk]
  rfl
theorem fact_only (d : Nat) (h : d ≤ 7) (k : Nat) (t : Int) (ht : commodatumref01_Factorial.f k (d : Int) = some t) : t = (fact d : Int) := by
  obtain ⟨K, hK⟩ := ref_factorial d h
  have h1 : commodatumref01_Factorial.f (max k K) (d : Int) = some t := at_rounds (commodatumref01_Factorial.mono (d : Int)) (Nat.le_max_left k K) ht
  have h2 : commodatumref01_Factorial.f (max k K) (d : Int) = some (fact d : Int) := hK _ (Nat.le_max_right k K)
  rw [h1] at h2
  exact Option.some.inj h2
theorem ref_unrank_l0 (n : Nat) (h7 : n ≤ 7) : ∀ d i r (xs ys : List Int), i + d = n → xs.length = d → ys.length = i → r < fact d → Ev (fun k => commodatumref01_Unrank.l0 k n r xs ys i) (ys ++ unr d r xs)
  | 0, i, r, xs, ys, h, hx, hy, hr => by
    rw [unr, List.append_nil]
    refine EvS fun k => ?_
    simp only [commodatumref01_Unrank.l0]
    rw [if_neg (by omega)]
  | d + 1, i, r, xs, ys, h, hx, hy, hr => by
    have hq := div_lt d r hr
    have hfp := fact_pos d
    have hr2 := Nat.lt_of_lt_of_le hr (fact_le7 (d + 1) (by omega))
    have hqr : r / fact d ≤ r := Nat.div_le_self _ _
    have ih := ref_unrank_l0 n h7 d (i + 1) (r % fact d) (xs.eraseIdx (r / fact d)) (ys ++ [xs.getD (r / fact d) 0]) (by omega) (by rw [List.length_eraseIdx_of_lt (by omega)]; omega) (by simp [hy]) (Nat.mod_lt _ hfp)
    have e1 : wrap64 (Int.tdiv (r : Int) (fact d : Int)) = ((r / fact d : Nat) : Int) := by
      rw [tdiv_nat]; exact wnat _ (Nat.lt_of_le_of_lt hqr (Nat.lt_of_lt_of_le hr2 (by decide)))
    have e2 : Int.tmod (r : Int) (fact d : Int) = ((r % fact d : Nat) : Int) := tmod_nat _ _
    have hd7 : d ≤ 7 := by omega
    rw [unr, show ys ++ (xs.getD (r / fact d) 0 :: unr d (r % fact d) (xs.eraseIdx (r / fact d))) = (ys ++ [xs.getD (r / fact d) 0]) ++ unr d (r % fact d) (xs.eraseIdx (r / fact d)) by simp]
    refine Ev1 (f := fun k => (commodatumref01_Factorial.f k (d : Int)).bind fun t255 => commodatumref01_Unrank.l0 k n ((r % fact d : Nat) : Int) (xs.eraseIdx (r / fact d)) (ys ++ [xs.getD (r / fact d) 0]) ((i + 1 : Nat) : Int)) (Ev.bind (ref_factorial d hd7) ih) ?_
    intro k
    cases hc : commodatumref01_Factorial.f k (d : Int) with
    | none => rw [ref_unrank_none n i d r h7 h xs ys k hc]; rfl
    | some t =>
      have ht := fact_only d hd7 k t hc
      rw [ht] at hc
      rw [ref_unrank_round n i d r (fact d) _ _ h7 h xs ys hx hy hq hfp k e1 e2 hc]; rfl
theorem ref_unrank (n r : Nat) (h7 : n ≤ 7) (hr : r < fact n) : Ev (fun k => commodatumref01_Unrank.f k n r) (unr n r (idn n)) := by
  simp only [commodatumref01_Unrank.f]
  refine Ev.bind (ref_identity n h7) ?_
  have := ref_unrank_l0 n h7 n 0 r (idn n) [] (by omega) (idn_len n) rfl hr
  simpa using this
theorem makes_j0 (a b : Int) : Ev (fun k => commodatumlaw01_PermMakes.j0 k a b [] 2 [] 2 true) true := by
  refine Ev1 (f := fun k => (commodatumlaw01_is.f k [] 2 ([] : List Int) 2).bind fun t285 => (if t285 = true then ((commodatumlaw01_is.f k [] 2 ([] : List Int) 2).bind fun t286 => (if t286 = true then ((commodatumlaw01_alive.f k).bind fun t287 => (some t287)) else (some false))) else (some false))) ?_ (fun k => rfl)
  refine Ev.bind (is_bad 2 (by omega) _) ?_
  simp only [if_true]
  refine Ev.bind (is_bad 2 (by omega) _) ?_
  simp only [if_true]
  exact alive'
theorem makes_j1_bad (n : Nat) (b : Int) (h7 : n ≤ 7) : Ev (fun k => commodatumlaw01_PermMakes.j1 k n b (idn n) 0 [] 2 true) true := by
  refine Ev1 (f := fun k => (commodatumref01_Identity.f k n).bind fun t289 => ((commodatumlaw01_is.f k (idn n) 0 t289 0).bind fun t292 => (if t292 = true then ((commodatumlaw01_is.f k [] 2 ([] : List Int) 2).bind fun t293 => (if t293 = true then ((commodatumlaw01_alive.f k).bind fun t294 => (some t294)) else (some false))) else (some false)))) ?_ (fun k => rfl)
  refine Ev.bind (ref_identity n h7) (Ev.bind (is_ok _ (by rw [idn_len]; omega)) ?_)
  simp only [if_true]
  refine Ev.bind (is_bad 2 (by omega) _) ?_
  simp only [if_true]
  exact alive'
theorem makes_j1 (n r : Nat) (h1 : 1 ≤ n) (h7 : n ≤ 7) (hr : r < fact n) : Ev (fun k => commodatumlaw01_PermMakes.j1 k n r (idn n) 0 (unr n r (idn n)) 0 false) true := by
  refine Ev1 (f := fun k => (commodatumref01_Identity.f k n).bind fun t295 => ((commodatumlaw01_is.f k (idn n) 0 t295 0).bind fun t298 => (if t298 = true then ((commodatumref01_Unrank.f k n r).bind fun t299 => ((commodatumlaw01_is.f k (unr n r (idn n)) 0 t299 0).bind fun t302 => (if t302 = true then ((commodatumlaw01_alive.f k).bind fun t303 => (some t303)) else (some false)))) else (some false)))) ?_ (fun k => rfl)
  refine Ev.bind (ref_identity n h7) (Ev.bind (is_ok _ (by rw [idn_len]; omega)) ?_)
  simp only [if_true]
  refine Ev.bind (ref_unrank n r h7 hr) (Ev.bind (is_ok _ (by rw [unr_len n r hr]; omega)) ?_)
  simp only [if_true]
  exact alive'
theorem pure_PermMakes : ∀ (a0 : Int) (a1 : Int), (Lit.int .i64 a0).wf = true → (Lit.int .i64 a1).wf = true → ∃ k, Pa.commodatumlaw01_PermMakes.f k a0 a1 = some true := by
  intro a b _ _
  refine Ev.rounds (g := fun k => Pa.commodatumlaw01_PermMakes.f k a b) ?_
  simp only [commodatumlaw01_PermMakes.f]
  by_cases h : a < 1 ∨ 7 < a
  · refine Ev.bind (perm_Identity_bad a h) (Ev.bind (perm_Unrank_bad a b (by omega)) ?_)
    by_cases h1 : a < 1
    · simp only [h1, if_true]; exact makes_j0 a b
    · simp only [h1, if_false, show a > 7 by omega, decide_true]; exact makes_j0 a b
  · obtain ⟨n, rfl⟩ : ∃ n : Nat, a = n := ⟨a.toNat, by omega⟩
    refine Ev.bind (perm_Identity_ n (by omega) (by omega)) ?_
    by_cases hb : b < 0
    · refine Ev.bind (perm_Unrank_bad n b (by omega)) ?_
      simp only [show ¬ (n : Int) < 1 by omega, if_false, show ¬ (n : Int) > 7 by omega, decide_false]
      refine Ev1 (makes_j1_bad n b (by omega)) fun k => ?_
      simp only [commodatumlaw01_PermMakes.j0]
      rw [if_neg (by simp), if_pos hb]
    · by_cases hf : (fact n : Int) ≤ b
      · refine Ev.bind (perm_Unrank_bad n b (.inr (.inr (.inr (by simpa using hf))))) ?_
        simp only [show ¬ (n : Int) < 1 by omega, if_false, show ¬ (n : Int) > 7 by omega, decide_false]
        refine Ev1 (f := fun k => (commodatumref01_Factorial.f k n).bind fun t288 => (commodatumlaw01_PermMakes.j1 k n b (idn n) 0 [] 2 (decide (b ≥ t288)))) ?_ (fun k => by simp only [commodatumlaw01_PermMakes.j0]; rw [if_neg (by simp), if_neg hb])
        refine Ev.bind (ref_factorial n (by omega)) ?_
        simp only [show b ≥ ((fact n : Nat) : Int) by omega, decide_true]
        exact makes_j1_bad n b (by omega)
      · obtain ⟨r, rfl⟩ : ∃ r : Nat, b = r := ⟨b.toNat, by omega⟩
        refine Ev.bind (perm_Unrank_ n r (by omega) (by omega) (by omega)) ?_
        simp only [show ¬ (n : Int) < 1 by omega, if_false, show ¬ (n : Int) > 7 by omega, decide_false]
        refine Ev1 (f := fun k => (commodatumref01_Factorial.f k n).bind fun t288 => (commodatumlaw01_PermMakes.j1 k n r (idn n) 0 (unr n r (idn n)) 0 (decide ((r : Int) ≥ t288)))) ?_ (fun k => by simp only [commodatumlaw01_PermMakes.j0]; rw [if_neg (by simp), if_neg hb])
        refine Ev.bind (ref_factorial n (by omega)) ?_
        simp only [show ¬ (r : Int) ≥ ((fact n : Nat) : Int) by omega, decide_false]
        exact makes_j1 n r (by omega) (by omega) (by omega)
end Go.Proofs.Ytjfhogholmabfaa.Pure
