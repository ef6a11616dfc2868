/- The pure statement of PermValid: for every list the printed function answers true. No condition. -/
import Derived.Test.YtjfhogholmabfaaPureC01
import Derived.Test.YtjfhogholmabfaaPureC02
import Derived.Test.YtjfhogholmabfaaPureC03
import Derived.Test.YtjfhogholmabfaaPcx1
namespace Go.Proofs.Ytjfhogholmabfaa.PureC
set_option linter.unusedVariables false
set_option linter.unusedSimpArgs false
open Go.RowKit Go.Proofs.YtjfhogholmabfaaW.PrintWords Go.Proofs.YtjfhogholmabfaaW.PrintLast Go.Proofs.YtjfhogholmabfaaW.PrintMore
open Giv Go.Proofs.Ytjfhogholmabfaa.Pure Pc
open Pa (commodatumlaw01_short.f commodatumlaw01_alive.f commodatumlaw01_is.f perm_mul.f perm_identity.f commodatumref01_Valid.f commodatumref01_SameLists.f commodatumref01_Parity.f commodatumref01_Cycles.f commodatumref01_Inverse.f perm_inverse.f commodatumref01_Identity.f commodatumref01_Same.f commodatumref01_Mul.f)
theorem equal_l0 (x y : List Int) (hl : x.length = y.length) (hn : x.length < 100000000) : ∀ d i, i + d = x.length → Ev (fun k => api_Perm_int.l0 k x y x.length i) (decide (x.drop i = y.drop i))
  | 0, i, h => by
    rw [decide_eq_true (by rw [List.drop_of_length_le (by omega), List.drop_of_length_le (by omega)])]
    refine EvS fun k => ?_
    simp only [api_Perm_int.l0]
    rw [if_neg (by omega)]
  | d + 1, i, h => by
    have h1 : i < x.length := by omega
    have h2 : i < y.length := by omega
    have e : (x.drop i = y.drop i) = (x[i] = y[i] ∧ x.drop (i + 1) = y.drop (i + 1)) := by
      rw [List.drop_eq_getElem_cons h1, List.drop_eq_getElem_cons h2, List.cons.injEq]
    by_cases he : x[i] = y[i]
    · have ih := equal_l0 x y hl hn d (i + 1) (by omega)
      rw [decide_eq_decide.2 (show (x.drop i = y.drop i) ↔ x.drop (i + 1) = y.drop (i + 1) by rw [e]; simp [he])]
      refine Ev1 ih fun k => ?_
      simp only [api_Perm_int.l0]
      rw [if_pos (by omega), if_pos (by omega), if_pos (by omega), if_pos (by omega), rd_at _ _ h1, rd_at _ _ h2, if_pos he, w64 _ (by omega)]
    · rw [decide_eq_false (by rw [e]; simp [he])]
      refine EvS fun k => ?_
      simp only [api_Perm_int.l0]
      rw [if_pos (by omega), if_pos (by omega), if_pos (by omega), if_pos (by omega), rd_at _ _ h1, rd_at _ _ h2, if_neg he]
theorem equal (x y : List Int) (hn : x.length < 100000000) : Ev (fun k => api_Perm_int.f k x y) (decide (x = y)) := by
  by_cases hl : x.length = y.length
  · have h := equal_l0 x y hl hn x.length 0 (by omega)
    refine EvC h fun k => ?_
    simp only [api_Perm_int.f]
    rw [if_pos (by omega)]; rfl
  · rw [decide_eq_false (by rintro rfl; exact hl rfl)]
    refine EvC (Ev.now false) fun k => ?_
    simp only [api_Perm_int.f]
    rw [if_neg (by omega)]
theorem order_l0 {p : List Int} (hp : validB p = true) {o : Nat} (ho : IsOrd p o) : ∀ d n, 1 ≤ n → n + d = o → Ev (fun k => perm_Order.l0 k p n (powL p n)) (o : Int)
  | d, n, h1, hd => by
    obtain ⟨a, b, c, _⟩ := valid_into hp
    obtain ⟨o1, o2, o3, o4⟩ := ho
    have hv := (valid_into (powL_valid hp n)).1
    rw [powL_len] at hv
    cases d with
    | zero =>
      obtain rfl : n = o := by omega
      refine Ev1 (f := fun k => (perm_identity.f k (p.length : Int)).bind fun t148 => ((api_Perm_int.f k (powL p n) t148).bind fun t151 => (if t151 = true then (some (n : Int)) else ((perm_mul.f k (powL p n) p).bind fun t152 => (perm_Order.l0 k p (wrap64 ((n : Int) + 1)) t152))))) ?_ (fun k => rfl)
      refine Ev.bind (identity_ _ c) (Ev.bind (equal _ _ (by rw [powL_len]; omega)) ?_)
      simp only [o3, decide_true, if_true]
      exact Ev.now _
    | succ d =>
      have ih := order_l0 hp ⟨o1, o2, o3, o4⟩ d (n + 1) (by omega) (by omega)
      refine Ev1 (f := fun k => (perm_identity.f k (p.length : Int)).bind fun t148 => ((api_Perm_int.f k (powL p n) t148).bind fun t151 => (if t151 = true then (some (n : Int)) else ((perm_mul.f k (powL p n) p).bind fun t152 => (perm_Order.l0 k p (wrap64 ((n : Int) + 1)) t152))))) ?_ (fun k => rfl)
      refine Ev.bind (identity_ _ c) (Ev.bind (equal _ _ (by rw [powL_len]; omega)) ?_)
      simp only [decide_eq_false (o4 n h1 (by omega)), Bool.false_eq_true, if_false]
      refine Ev.bind (perm_mul _ _ hv (by rw [powL_len]; omega)) ?_
      simp only [w64 n (by omega)]
      exact ih
theorem order_ {p : List Int} (hp : validB p = true) {o : Nat} (ho : IsOrd p o) : Ev (fun k => perm_Order.f k p) (o : Int) := by
  have h := order_l0 hp ho (o - 1) 1 (by omega) (by have := ho.1; omega)
  rw [powL_one] at h
  simp only [perm_Order.f, perm_Valid.f, Option.bind_some, hp, if_true]
  exact h
theorem ref_order_l0 {p : List Int} (hp : validB p = true) {o : Nat} (ho : IsOrd p o) : ∀ d n, 1 ≤ n → n + d = o → Ev (fun k => commodatumref01_Order.l0 k p n (powL p n)) (o : Int)
  | d, n, h1, hd => by
    obtain ⟨a, b, c, _⟩ := valid_into hp
    obtain ⟨o1, o2, o3, o4⟩ := ho
    have hv := (valid_into (powL_valid hp n)).1
    rw [powL_len] at hv
    cases d with
    | zero =>
      obtain rfl : n = o := by omega
      refine Ev1 (f := fun k => (commodatumref01_Identity.f k (p.length : Int)).bind fun t312 => ((commodatumref01_Same.f k (powL p n) t312).bind fun t315 => (if t315 = true then (some (n : Int)) else ((commodatumref01_Mul.f k (powL p n) p).bind fun t316 => (commodatumref01_Order.l0 k p (wrap64 ((n : Int) + 1)) t316))))) ?_ (fun k => rfl)
      refine Ev.bind (ref_identity _ c) (Ev.bind (same _ _ (by rw [powL_len]; omega)) ?_)
      simp only [o3, decide_true, if_true]
      exact Ev.now _
    | succ d =>
      have ih := ref_order_l0 hp ⟨o1, o2, o3, o4⟩ d (n + 1) (by omega) (by omega)
      refine Ev1 (f := fun k => (commodatumref01_Identity.f k (p.length : Int)).bind fun t312 => ((commodatumref01_Same.f k (powL p n) t312).bind fun t315 => (if t315 = true then (some (n : Int)) else ((commodatumref01_Mul.f k (powL p n) p).bind fun t316 => (commodatumref01_Order.l0 k p (wrap64 ((n : Int) + 1)) t316))))) ?_ (fun k => rfl)
      refine Ev.bind (ref_identity _ c) (Ev.bind (same _ _ (by rw [powL_len]; omega)) ?_)
      simp only [decide_eq_false (o4 n h1 (by omega)), Bool.false_eq_true, if_false]
      refine Ev.bind (ref_mul _ _ hv (by rw [powL_len]; omega)) ?_
      simp only [w64 n (by omega)]
      exact ih
theorem ref_order {p : List Int} (hp : validB p = true) {o : Nat} (ho : IsOrd p o) : Ev (fun k => commodatumref01_Order.f k p) (o : Int) := by
  have h := ref_order_l0 hp ho (o - 1) 1 (by omega) (by have := ho.1; omega)
  rw [powL_one] at h
  exact h
/-- How many factors a power has. -/
theorem perm_Inverse_ {p : List Int} (hp : validB p = true) : Ev (fun k => perm_Inverse.f k p) (invL p, 0) := by
  obtain ⟨a, b, c, d⟩ := valid_into hp
  simp only [perm_Inverse.f, perm_Valid.f, Option.bind_some, hp, if_true]
  exact Ev.bind (perm_inverse p a (by omega)) (Ev.now _)

theorem chk_all {p : List Int} (hp : validB p = true) : chkV p = true := by
  obtain ⟨a, b, c, d⟩ := valid_into hp
  generalize hl : p.length = n at a b c
  have h0 : ∀ f, allExt n f n [] = true → f p = true := fun f h => allExt_mem hl a d n 0 (by omega) h
  have hc : n = 1 ∨ n = 2 ∨ n = 3 ∨ n = 4 ∨ n = 5 ∨ n = 6 ∨ n = 7 := by omega
  rcases hc with rfl | rfl | rfl | rfl | rfl | rfl | rfl
  · exact h0 _ chk1
  · exact h0 _ chk2
  · exact h0 _ chk3
  · exact h0 _ chk4
  · exact h0 _ chk5
  · exact h0 _ chk6
  · have h1 : (p.take 1) = [p[0]'(by omega)] := by
      rw [List.take_succ_eq_append_getElem (by omega)]; simp
    have hx := a.at 0 (by omega)
    rw [getD_at _ _ (by omega)] at hx
    refine allExt_mem hl a d 6 1 (by omega) ?_
    rw [h1]
    have hc : p[0]'(by omega) = 0 ∨ p[0]'(by omega) = 1 ∨ p[0]'(by omega) = 2 ∨ p[0]'(by omega) = 3 ∨ p[0]'(by omega) = 4 ∨ p[0]'(by omega) = 5 ∨ p[0]'(by omega) = 6 := by omega
    rcases hc with h | h | h | h | h | h | h <;> rw [h]
    · exact chk7_0
    · exact chk7_1
    · exact chk7_2
    · exact chk7_3
    · exact chk7_4
    · exact chk7_5
    · exact chk7_6
theorem ref_cycles {p : List Int} (hp : validB p = true) : Ev (fun k => commodatumref01_Cycles.f k p) (cycL p) := by
  have h := chk_all hp
  simp only [chkV, Bool.and_eq_true, decide_eq_true_eq] at h
  exact Ev.of (k := 40) (Pa.commodatumref01_Cycles.mono _) h.1
theorem ref_parity {p : List Int} (hp : validB p = true) : Ev (fun k => commodatumref01_Parity.f k p) (Int.tmod (sumW (cycL p)) 2) := by
  have h := chk_all hp
  simp only [chkV, Bool.and_eq_true, decide_eq_true_eq] at h
  exact Ev.of (k := 64) (Pa.commodatumref01_Parity.mono _) h.2.1
theorem samelists {p : List Int} (hp : validB p = true) : Ev (fun k => commodatumref01_SameLists.f k (cycL p) (cycL p)) true := by
  have h := chk_all hp
  simp only [chkV, Bool.and_eq_true, decide_eq_true_eq] at h
  exact Ev.of (k := 40) (Pa.commodatumref01_SameLists.mono _ _) h.2.2
theorem pure_PermValid : ∀ (l0 : List Int), l0.length ≤ maxLen → l0.length * 8 ≤ 140737488351232 → (∀ x ∈ l0, (Lit.int .i64 x).wf = true) → ∃ k, Pc.commodatumlaw01_PermValid.f k l0 = some true := by
  intro p _ _ _
  refine Ev.rounds (g := fun k => Pc.commodatumlaw01_PermValid.f k p) ?_
  simp only [commodatumlaw01_PermValid.f]
  refine Ev.bind (short _ (by simp)) ?_
  by_cases hs : shortB [p] = true
  · simp only [hs, if_true]
    refine Ev.bind (refValid p) ?_
    by_cases hp : validB p = true
    · obtain ⟨o, ho⟩ := ord_ex hp
      obtain ⟨a, b, c, _⟩ := valid_into hp
      simp only [hp, if_true]
      refine Ev.bind (ref_order hp ho) (Ev.bind (ref_parity hp) (Ev.bind (ref_cycles hp) (Ev.bind (ref_inverse p a (by omega)) (Ev.bind (perm_Inverse_ hp) ?_))))
      simp only [perm_Valid.f, Option.bind_some, hp, if_true]
      refine Ev.bind (order_ hp ho) ?_
      simp only [if_true, perm_Parity.f, perm_Cycles.f, Option.bind_some, hp]
      refine Ev.bind (samelists hp) ?_
      simp only [if_true]
      refine Ev.bind (is_ok _ (by rw [invL_len]; omega)) ?_
      simp only [if_true]
      exact alive'
    · simp only [hp, if_false]
      have hi : Ev (fun k => Pc.perm_Inverse.f k p) ([], 1) := by
        simp only [perm_Inverse.f, perm_Valid.f, Option.bind_some, hp, if_false]
        exact Ev.now _
      have hord : Ev (fun k => Pc.perm_Order.f k p) 0 := by
        simp only [perm_Order.f, perm_Valid.f, Option.bind_some, hp, if_false]
        exact Ev.now _
      refine Ev.bind hi ?_
      simp only [perm_Valid.f, Option.bind_some, hp, if_false]
      refine Ev.bind hord ?_
      simp only [if_true, perm_Parity.f, perm_Cycles.f, Option.bind_some, hp, if_false, List.length_nil, Int.ofNat_zero, Bool.false_eq_true]
      refine Ev.bind (is_bad 1 (by omega) _) ?_
      simp only [if_true]
      exact alive'
  · simp only [hs, if_false]
    exact alive'
end Go.Proofs.Ytjfhogholmabfaa.PureC
namespace Go.Proofs.Ytjfhogholmabfaa.Pure
theorem pure_PermValid : ∀ (l0 : List Int), l0.length ≤ maxLen → l0.length * 8 ≤ 140737488351232 → (∀ x ∈ l0, (Lit.int .i64 x).wf = true) → ∃ k, Pc.commodatumlaw01_PermValid.f k l0 = some true := PureC.pure_PermValid
end Go.Proofs.Ytjfhogholmabfaa.Pure
