/- Conjugators, ranks, cycle lengths: the pure statement of PermConjugate. No condition. -/
import Derived.Test.YtjfhogholmabfaaPureB0
import Derived.Test.YtjfhogholmabfaaPax8
import Derived.Test.YtjfhogholmabfaaPax9
import Derived.Test.YtjfhogholmabfaaPax6
import Derived.Test.YtjfhogholmabfaaPureF8
import Derived.Test.YtjfhogholmabfaaPureF01
import Derived.Test.YtjfhogholmabfaaPureF02
import Derived.Test.YtjfhogholmabfaaPureF03
import Derived.Test.YtjfhogholmabfaaPureF04
import Derived.Test.YtjfhogholmabfaaPqx1
section
namespace Go.Proofs.Ytjfhogholmabfaa.Pure
set_option linter.unusedVariables false
set_option linter.unusedSimpArgs false
open Go.RowKit Go.Proofs.YtjfhogholmabfaaW.PrintWords Go.Proofs.YtjfhogholmabfaaW.PrintLast Go.Proofs.YtjfhogholmabfaaW.PrintMore
open Pa Giv

/-! ### the group -/
def usableL (l : List (List Int)) (n : Nat) : Bool := decide (∀ x ∈ l, validB x = true ∧ x.length = n)
theorem usable_cons (y : List Int) (l : List (List Int)) (n : Nat) : usableL (y :: l) n = ((validB y && decide (y.length = n)) && usableL l n) := by
  rw [Bool.eq_iff_iff]
  simp [usableL, and_assoc]
theorem usable_l0 (x : List (List Int)) (h0 : 0 < x.length) (hn : x.length < 1000) : ∀ d i, i + d = x.length → Ev (fun k => commodatumlaw01_usable.l0 k x i) (usableL (x.drop i) (x[0].length))
  | 0, i, h => by
    rw [List.drop_of_length_le (by omega)]
    refine EvS fun k => ?_
    simp only [commodatumlaw01_usable.l0]
    rw [if_neg (by omega)]
    simp [usableL]
  | d + 1, i, h => by
    have h1 : i < x.length := by omega
    have ih := usable_l0 x h0 hn d (i + 1) (by omega)
    have e0 : rd_L1 x 0 = x[0] := rd_L1_at x 0 h0
    rw [List.drop_eq_getElem_cons h1]
    by_cases hv : validB x[i] = true
    · by_cases hl : x[i].length = x[0].length
      · have e : usableL (x[i] :: x.drop (i + 1)) x[0].length = usableL (x.drop (i + 1)) x[0].length := by
          rw [usable_cons, hv, decide_eq_true hl]; rfl
        rw [e]
        refine Ev1 ih fun k => ?_
        simp only [commodatumlaw01_usable.l0]
        rw [if_pos (by omega), if_pos (by omega), rd_L1_at _ _ h1, e0]
        simp only [perm_Valid.f, hv, Option.bind_some, if_true]
        rw [if_pos (by omega), if_pos (by omega), if_neg (by have := (valid_into hv).2.2.1; omega), w64 _ (by omega)]
      · have e : usableL (x[i] :: x.drop (i + 1)) x[0].length = false := by
          rw [usable_cons, decide_eq_false hl]; simp
        rw [e]
        refine EvS fun k => ?_
        simp only [commodatumlaw01_usable.l0]
        rw [if_pos (by omega), if_pos (by omega), rd_L1_at _ _ h1, e0]
        simp only [perm_Valid.f, hv, Option.bind_some, if_true]
        rw [if_pos (by omega), if_neg (by omega)]
    · simp only [Bool.not_eq_true] at hv
      have e : usableL (x[i] :: x.drop (i + 1)) x[0].length = false := by
        rw [usable_cons, hv]; rfl
      rw [e]
      refine EvS fun k => ?_
      simp only [commodatumlaw01_usable.l0]
      rw [if_pos (by omega), if_pos (by omega), rd_L1_at _ _ h1]
      simp only [perm_Valid.f, hv, Option.bind_some, Bool.false_eq_true, if_false]
theorem usable_ (p : List Int) (r : List (List Int)) (hn : r.length < 900) : Ev (fun k => commodatumlaw01_usable.f k (p :: r)) (usableL (p :: r) p.length) := by
  simp only [commodatumlaw01_usable.f]
  refine Ev.bind (short _ (by simp; omega)) ?_
  by_cases hs : shortB (p :: r) = true
  · simp only [hs, if_true]
    have := usable_l0 (p :: r) (by simp) (by simp; omega) (p :: r).length 0 (by omega)
    simpa using this
  · simp only [hs, if_false]
    have e : usableL (p :: r) p.length = false := by
      cases hu : usableL (p :: r) p.length with
      | false => rfl
      | true =>
        exfalso
        apply hs
        have hu := of_decide_eq_true hu
        have : ∀ l : List (List Int), (∀ x ∈ l, validB x = true) → shortB l = true := by
          intro l
          induction l with
          | nil => intro _; rfl
          | cons y l ih =>
            intro h
            have := (valid_into (h y List.mem_cons_self)).2.2.1
            simp only [shortB, ih (fun x hx => h x (List.mem_cons_of_mem _ hx)), Bool.and_true]
            exact decide_eq_true (by omega)
        exact this _ (fun x hx => (hu x hx).1)
    rw [e]
    exact Ev.now _
theorem law_mul {p q : List Int} (hp : validB p = true) (hq : validB q = true) (hl : p.length = q.length) : Ev (fun k => commodatumlaw01_mul.f k p q) (mulL p q) := by
  have h : alikeL p q = 0 := by unfold alikeL; rw [if_pos ⟨hp, hq⟩, if_pos hl]
  have := perm_Mul p q
  simp only [h, if_true] at this
  simp only [commodatumlaw01_mul.f]
  refine Ev.bind this ?_
  simp only [if_true]
  exact Ev.now _
theorem same_eq {x y : List Int} (h : x = y) (hn : x.length < 100000000) : Ev (fun k => commodatumref01_Same.f k x y) true := by
  have := same x y hn
  rwa [decide_eq_true h] at this
theorem perm_Inverse_ {p : List Int} (hp : validB p = true) : Ev (fun k => perm_Inverse.f k p) (invL p, 0) := by
  obtain ⟨a, b, c, d⟩ := valid_into hp
  simp only [perm_Inverse.f, perm_Valid.f, Option.bind_some, hp, if_true]
  exact Ev.bind (perm_inverse p a (by omega)) (Ev.now _)
end Go.Proofs.Ytjfhogholmabfaa.Pure
end
section
namespace Go.Proofs.Ytjfhogholmabfaa.Pure
set_option linter.unusedVariables false
set_option linter.unusedSimpArgs false
open Go.RowKit Go.Proofs.YtjfhogholmabfaaW.PrintWords Go.Proofs.YtjfhogholmabfaaW.PrintLast Go.Proofs.YtjfhogholmabfaaW.PrintMore
open Pa Giv

/-! ### conjugators -/
/-- The first c of rank i or more, of d ranks, with p c = c q. -/
def srch (p q : List Int) : Nat → Nat → Option (List Int)
  | 0, _ => none
  | d + 1, i => if mulL p (unr p.length i (idn p.length)) = mulL (unr p.length i (idn p.length)) q then some (unr p.length i (idn p.length)) else srch p q d (i + 1)
theorem conj_l0 {p q : List Int} (hp : validB p = true) (hq : validB q = true) (hl : p.length = q.length) : ∀ d i, i + d = fact p.length →
    Ev (fun k => perm_Conjugator.l0 k p q (fact p.length : Int) i) (match srch p q d i with | some c => (c, 0) | none => ([], 6))
  | 0, i, h => by
    refine EvS fun k => ?_
    simp only [perm_Conjugator.l0]
    rw [if_neg (by omega)]
    rfl
  | d + 1, i, h => by
    obtain ⟨a, b, c, _⟩ := valid_into hp
    obtain ⟨a', b', c', _⟩ := valid_into hq
    have hi : i < fact p.length := by omega
    have hf := fact_le7 p.length c
    have ih := conj_l0 hp hq hl d (i + 1) (by omega)
    have hcl := unr_len p.length i hi
    have hcv := valid_into (valid_unr b c hi)
    rw [hcl] at hcv
    refine Ev1 (f := fun k => (perm_unrank.f (p.length : Int) i).bind fun t363 => ((perm_mul.f k p t363).bind fun t366 => ((perm_mul.f k t363 q).bind fun t369 => ((api_Perm_int.f k t366 t369).bind fun t372 => (if t372 = true then (some (t363, (0 : Int))) else (perm_Conjugator.l0 k p q (fact p.length : Int) (wrap64 ((i : Int) + 1)))))))) ?_ (fun k => by simp only [perm_Conjugator.l0]; rw [if_pos (by omega)])
    simp only [perm_unrank_f p.length i b c hi, Option.bind_some]
    refine Ev.bind (perm_mul _ _ (by rw [hcl]; exact a) (by omega)) (Ev.bind (perm_mul _ _ (by rw [← hl]; exact hcv.1) (by rw [hcl]; omega)) (Ev.bind (equal _ _ (by rw [mulL_len]; omega)) ?_))
    simp only [srch]
    by_cases he : mulL p (unr p.length i (idn p.length)) = mulL (unr p.length i (idn p.length)) q
    · simp only [he, decide_true, if_true]
      exact Ev.now _
    · simp only [he, decide_false, Bool.false_eq_true, if_false, w64 i (by omega)]
      exact ih
theorem conj_ (p q : List Int) : Ev (fun k => perm_Conjugator.f k p q) (if alikeL p q = 0 then (match srch p q (fact p.length) 0 with | some c => (c, 0) | none => ([], 6)) else ([], alikeL p q)) := by
  simp only [perm_Conjugator.f]
  refine Ev.bind (both p q) ?_
  by_cases h : alikeL p q = 0
  · simp only [h, if_true]
    unfold alikeL at h
    split at h
    · rename_i hv
      obtain ⟨a, b, c, d⟩ := valid_into hv.1
      split at h
      · rename_i hl
        exact Ev.bind (factorial_ _ c) (conj_l0 hv.1 hv.2 hl (fact p.length) 0 (by omega))
      · omega
    · omega
  · simp only [h, if_false]
    exact Ev.now _
theorem conj_iff {p q c : List Int} (hp : validB p = true) (hq : validB q = true) (hc : validB c = true) (h1 : p.length = q.length) (h2 : c.length = p.length) : mulL (mulL (invL c) p) c = q ↔ mulL p c = mulL c q := by
  obtain ⟨ap, bp, cp, dp⟩ := valid_into hp
  obtain ⟨aq, bq, cq, dq⟩ := valid_into hq
  obtain ⟨ac, bc, cc, dc⟩ := valid_into hc
  have hi : Into (invL c) p.length := by rw [← h2]; exact into_inv bc
  rw [mul_assoc' c hi]
  constructor
  · intro h
    rw [← h, ← mul_assoc' _ (by rw [invL_len]; exact ac), mul_inv ac dc, show c.length = (mulL p c).length by rw [mulL_len, h2], id_mul]
  · intro h
    rw [h, ← mul_assoc' _ (by rw [← h2] at hi; exact hi), inv_mul ac dc, show c.length = q.length by omega, id_mul]
end Go.Proofs.Ytjfhogholmabfaa.Pure
end
section
namespace Go.Proofs.Ytjfhogholmabfaa.Pure
set_option linter.unusedVariables false
set_option linter.unusedSimpArgs false
open Go.RowKit Go.Proofs.YtjfhogholmabfaaW.PrintWords Go.Proofs.YtjfhogholmabfaaW.PrintLast Go.Proofs.YtjfhogholmabfaaW.PrintMore
open Pa Giv

theorem all_of {f : List Int → Bool} (h1 : allExt 1 f 1 [] = true) (h2 : allExt 2 f 2 [] = true) (h3 : allExt 3 f 3 [] = true) (h4 : allExt 4 f 4 [] = true) (h5 : allExt 5 f 5 [] = true) (h6 : allExt 6 f 6 [] = true)
    (g0 : allExt 7 f 6 [0] = true) (g1 : allExt 7 f 6 [1] = true) (g2 : allExt 7 f 6 [2] = true) (g3 : allExt 7 f 6 [3] = true) (g4 : allExt 7 f 6 [4] = true) (g5 : allExt 7 f 6 [5] = true) (g6 : allExt 7 f 6 [6] = true) {p : List Int} (hp : validB p = true) : f p = true := by
  obtain ⟨a, b, c, d⟩ := valid_into hp
  generalize hl : p.length = n at a b c
  have h0 : ∀ f, allExt n f n [] = true → f p = true := fun f h => allExt_mem hl a d n 0 (by omega) h
  have hc : n = 1 ∨ n = 2 ∨ n = 3 ∨ n = 4 ∨ n = 5 ∨ n = 6 ∨ n = 7 := by omega
  rcases hc with rfl | rfl | rfl | rfl | rfl | rfl | rfl
  · exact h0 _ h1
  · exact h0 _ h2
  · exact h0 _ h3
  · exact h0 _ h4
  · exact h0 _ h5
  · exact h0 _ h6
  · have h1 : (p.take 1) = [p[0]'(by omega)] := by
      rw [List.take_succ_eq_append_getElem (by omega)]; simp
    have hx := a.at 0 (by omega)
    rw [getD_at _ _ (by omega)] at hx
    refine allExt_mem hl a d 6 1 (by omega) ?_
    rw [h1]
    have hc : p[0]'(by omega) = 0 ∨ p[0]'(by omega) = 1 ∨ p[0]'(by omega) = 2 ∨ p[0]'(by omega) = 3 ∨ p[0]'(by omega) = 4 ∨ p[0]'(by omega) = 5 ∨ p[0]'(by omega) = 6 := by omega
    rcases hc with h | h | h | h | h | h | h <;> rw [h]
    · exact g0
    · exact g1
    · exact g2
    · exact g3
    · exact g4
    · exact g5
    · exact g6
theorem chl_all {p : List Int} (hp : validB p = true) : chkL p = true :=
  all_of (f := chkL) chl1 chl2 chl3 chl4 chl5 chl6 chl7_0 chl7_1 chl7_2 chl7_3 chl7_4 chl7_5 chl7_6 hp
theorem chu_all {p : List Int} (hp : validB p = true) : chkU p = true :=
  all_of (f := chkU) chu1 chu2 chu3 chu4 chu5 chu6 chu7_0 chu7_1 chu7_2 chu7_3 chu7_4 chu7_5 chu7_6 hp
theorem surj {c : List Int} (hc : validB c = true) : ∃ j, j < fact c.length ∧ unr c.length j (idn c.length) = c := by
  have h := chu_all hc
  simp only [chkU, Bool.and_eq_true, decide_eq_true_eq] at h
  exact ⟨_, h.1, h.2⟩
/-- Some valid c with p c = c q. -/
def Conj (p q : List Int) : Prop := ∃ c, validB c = true ∧ c.length = p.length ∧ mulL p c = mulL c q
theorem lens_conj {p q : List Int} (hp : validB p = true) (hq : validB q = true) (hl : p.length = q.length) : Conj p q ↔ lensL p = lensL q := by
  have h1 := chl_all hp
  have h2 := chl_all hq
  simp only [chkL, Bool.and_eq_true, decide_eq_true_eq] at h1 h2
  obtain ⟨a1, b1, c1, d1, e1, f1⟩ := h1
  obtain ⟨a2, b2, c2, d2, e2, f2⟩ := h2
  constructor
  · rintro ⟨c, hc, hcl, h⟩
    rw [a1, a2, fixes_conj hp hq hc hl hcl h]
  · intro h
    -- w p = k w, v q = k v: so p (inv w v) = inv w k v = (inv w v) q
    generalize wayL p = w at *
    generalize wayL q = v at *
    rw [← h, ← hl] at f2
    generalize canon p.length (lensL p) = kk at *
    have iw := valid_inv b1
    have hi {x : List Int} (hx : validB x = true) : Into x x.length := (valid_into hx).1
    have hwn := (valid_into b1)
    have hiw : Into (invL w) p.length := by have := hi iw; rwa [invL_len, c1] at this
    refine ⟨mulL (invL w) v, valid_mul iw b2 (by rw [invL_len, c1, c2, hl]), by rw [mulL_len, invL_len, c1], ?_⟩
    have hpk : mulL p (invL w) = mulL (invL w) kk := by
      -- inv w (w p) inv w = inv w (k w) inv w
      have s1 : mulL (mulL (mulL (invL w) w) p) (invL w) = mulL p (invL w) := by
        rw [inv_mul hwn.1 hwn.2.2.2, c1, id_mul]
      have s2 : mulL (mulL (mulL (invL w) w) p) (invL w) = mulL (invL w) kk := by
        rw [mul_assoc' p (p := invL w) (q := w) (by rw [c1]; exact hiw), f1, ← mul_assoc' w (p := invL w) (q := kk) (by rw [e1]; exact hiw),
          mul_assoc' (invL w) (p := mulL (invL w) kk) (q := w) (by
            have := valid_mul iw d1 (by rw [invL_len, c1, e1])
            have h3 := hi this
            rw [mulL_len, invL_len] at h3
            exact h3), mul_inv hwn.1 hwn.2.2.2]
        refine mul_id ?_
        have := valid_mul iw d1 (by rw [invL_len, c1, e1])
        have h3 := hi this
        rw [mulL_len, invL_len] at h3
        exact h3
      rw [← s1, s2]
    rw [← mul_assoc' v (p := p) (q := invL w) (by rw [invL_len, c1]; exact hi hp), hpk, mul_assoc' v (p := invL w) (q := kk) (by rw [e1]; exact hiw), ← f2,
      ← mul_assoc' q (p := invL w) (q := v) (by rw [c2, ← hl]; exact hiw)]
theorem srch_some (p q : List Int) : ∀ d i c, srch p q d i = some c → ∃ j, i ≤ j ∧ j < i + d ∧ c = unr p.length j (idn p.length) ∧ mulL p c = mulL c q ∧ ∀ m, i ≤ m → m < j → mulL p (unr p.length m (idn p.length)) ≠ mulL (unr p.length m (idn p.length)) q
  | 0, _, _, h => by cases h
  | d + 1, i, c, h => by
    simp only [srch] at h
    split at h
    · rename_i he
      obtain rfl := Option.some.inj h
      exact ⟨i, by omega, by omega, rfl, he, fun m a b => by omega⟩
    · rename_i he
      obtain ⟨j, a, b, e, f, g⟩ := srch_some p q d (i + 1) c h
      refine ⟨j, by omega, by omega, e, f, fun m x y => ?_⟩
      by_cases hm : m = i
      · rw [hm]; exact he
      · exact g m (by omega) y
theorem srch_none (p q : List Int) : ∀ d i, srch p q d i = none → ∀ m, i ≤ m → m < i + d → mulL p (unr p.length m (idn p.length)) ≠ mulL (unr p.length m (idn p.length)) q
  | 0, i, _ => fun m a b => by omega
  | d + 1, i, h => fun m x y => by
    simp only [srch] at h
    split at h
    · cases h
    · rename_i he
      by_cases hm : m = i
      · rw [hm]; exact he
      · exact srch_none p q d (i + 1) h m (by omega) (by omega)
theorem srch_iff {p q : List Int} (hp : validB p = true) (hq : validB q = true) (hl : p.length = q.length) : (srch p q (fact p.length) 0 ≠ none) ↔ lensL p = lensL q := by
  obtain ⟨_, b, c, _⟩ := valid_into hp
  rw [← lens_conj hp hq hl]
  constructor
  · intro h
    obtain ⟨x, hx⟩ := Option.ne_none_iff_exists'.1 h
    obtain ⟨j, _, hj, e, f, _⟩ := srch_some p q _ _ _ hx
    have hj : j < fact p.length := by omega
    exact ⟨x, by rw [e]; exact valid_unr b c hj, by rw [e]; exact unr_len _ _ hj, f⟩
  · rintro ⟨x, hx, hxl, h⟩ hn
    obtain ⟨j, hj, e⟩ := surj hx
    rw [hxl] at hj e
    exact srch_none p q _ _ hn j (by omega) (by omega) (by rw [e]; exact h)
/-- The conjugator found is not above any other. -/
theorem srch_least {p q x c : List Int} (hp : validB p = true) (hc : validB c = true) (hcl : c.length = p.length) (h : mulL p c = mulL c q) (hx : srch p q (fact p.length) 0 = some x) : lexL c x = false := by
  obtain ⟨_, b7, c7, _⟩ := valid_into hp
  obtain ⟨j, hj, e⟩ := surj hc
  rw [hcl] at hj e
  obtain ⟨i, _, hi, ei, _, g⟩ := srch_some p q _ _ _ hx
  rw [← e, ei, lex_unr p.length j i (idn p.length) (idn_len _) (rising_idn _) hj (by omega)]
  refine decide_eq_false fun hlt => g j (by omega) hlt ?_
  rw [e]; exact h
theorem less_ (x y : List Int) (hl : x.length = y.length) (hn : x.length ≤ 7) : Ev (fun k => commodatumref01_Less.f k x y) (lexL x y) := by
  have h := less_l0 x y hl hn x.length 0 (by omega)
  exact EvC h fun k => rfl
end Go.Proofs.Ytjfhogholmabfaa.Pure
end
section
namespace Go.Proofs.Ytjfhogholmabfaa.PureF
set_option linter.unusedVariables false
set_option linter.unusedSimpArgs false
open Go.RowKit Go.Proofs.YtjfhogholmabfaaW.PrintWords Go.Proofs.YtjfhogholmabfaaW.PrintLast Go.Proofs.YtjfhogholmabfaaW.PrintMore
open Giv Go.Proofs.Ytjfhogholmabfaa.Pure Pq
open Pa (commodatumlaw01_alive.f commodatumlaw01_usable.f commodatumlaw01_mul.f perm_Inverse.f perm_Conjugator.f commodatumref01_Same.f commodatumref01_Less.f commodatumref01_SameInts.f)

theorem sameInts_l0 (x y : List Int) (hl : x.length = y.length) (hn : x.length < 100000000) : ∀ d i, i + d = x.length → Ev (fun k => Pa.commodatumref01_SameInts.l0 k x y i) (decide (x.drop i = y.drop i))
  | 0, i, h => by
    rw [decide_eq_true (by rw [List.drop_of_length_le (by omega), List.drop_of_length_le (by omega)])]
    refine EvS fun k => ?_
    simp only [Pa.commodatumref01_SameInts.l0]
    rw [if_neg (by omega)]
  | d + 1, i, h => by
    have h1 : i < x.length := by omega
    have h2 : i < y.length := by omega
    have e : (x.drop i = y.drop i) = (x[i] = y[i] ∧ x.drop (i + 1) = y.drop (i + 1)) := by
      rw [List.drop_eq_getElem_cons h1, List.drop_eq_getElem_cons h2, List.cons.injEq]
    by_cases he : x[i] = y[i]
    · have ih := sameInts_l0 x y hl hn d (i + 1) (by omega)
      rw [decide_eq_decide.2 (show (x.drop i = y.drop i) ↔ x.drop (i + 1) = y.drop (i + 1) by rw [e]; simp [he])]
      refine Ev1 ih fun k => ?_
      simp only [Pa.commodatumref01_SameInts.l0]
      rw [if_pos (by omega), if_pos (by omega), if_pos (by omega), rd_at _ _ h1, rd_at _ _ h2, if_pos he, w64 _ (by omega)]
    · rw [decide_eq_false (by rw [e]; simp [he])]
      refine EvS fun k => ?_
      simp only [Pa.commodatumref01_SameInts.l0]
      rw [if_pos (by omega), if_pos (by omega), if_pos (by omega), rd_at _ _ h1, rd_at _ _ h2, if_neg he]
theorem sameInts (x y : List Int) (hn : x.length < 100000000) : Ev (fun k => commodatumref01_SameInts.f k x y) (decide (x = y)) := by
  by_cases hl : x.length = y.length
  · have h := sameInts_l0 x y hl hn x.length 0 (by omega)
    refine EvC h fun k => ?_
    simp only [commodatumref01_SameInts.f]
    rw [if_pos (by omega)]; rfl
  · rw [decide_eq_false (by rintro rfl; exact hl rfl)]
    refine EvC (Ev.now false) fun k => ?_
    simp only [commodatumref01_SameInts.f]
    rw [if_neg (by omega)]

theorem lengths_l0 (l : List (List Int)) (hn : l.length < 1000) : ∀ d i (a : List Int), i + d = l.length → a.length = 8 → Ev (fun k => commodatumlaw01_lengths.l0 k a l i) ((l.drop i).foldl (fun a c => if c.length ≤ 7 then a.set c.length (wrap64 (a.getD c.length 0 + 1)) else a) a)
  | 0, i, a, h, ha => by
    rw [List.drop_of_length_le (by omega)]
    refine EvS fun k => ?_
    simp only [commodatumlaw01_lengths.l0]
    rw [if_neg (by omega)]
    rfl
  | d + 1, i, a, h, ha => by
    have h1 : i < l.length := by omega
    rw [List.drop_eq_getElem_cons h1, List.foldl_cons]
    have e : rd_L2 l (i : Int) = l[i] := by
      show l.getD i [] = l[i]
      rw [List.getD_eq_getElem?_getD, List.getElem?_eq_getElem h1]; rfl
    by_cases c : (l[i]).length ≤ 7
    · rw [if_pos c]
      have ih := lengths_l0 l hn d (i + 1) (a.set (l[i]).length (wrap64 (a.getD (l[i]).length 0 + 1))) (by omega) (by rw [List.length_set]; exact ha)
      rw [← w64 i (by omega)] at ih
      refine Ev1 ih fun k => ?_
      simp only [commodatumlaw01_lengths.l0]
      rw [if_pos (by omega), if_pos (by omega), e, if_pos (by omega), if_pos (by omega), if_pos (by omega)]
      rfl
    · rw [if_neg c]
      have ih := lengths_l0 l hn d (i + 1) a (by omega) ha
      rw [← w64 i (by omega)] at ih
      refine Ev1 ih fun k => ?_
      simp only [commodatumlaw01_lengths.l0]
      rw [if_pos (by omega), if_pos (by omega), e, if_neg (by omega)]
theorem lengths_ {p : List Int} (hp : validB p = true) : Ev (fun k => commodatumlaw01_lengths.f k p) (lensL p) := by
  obtain ⟨_, b, c, _⟩ := valid_into hp
  have hlen : (cycL p).length ≤ p.length := cyc_count p p.length 0 []
  have h := lengths_l0 (cycL p) (by omega) (cycL p).length 0 (List.replicate 8 0) (by omega) (by simp)
  refine EvC h fun k => ?_
  simp only [commodatumlaw01_lengths.f, perm_Cycles.f, Option.bind_some, hp, if_true]
  rw [if_pos (by omega)]
  rfl
theorem fold_len : ∀ (l : List (List Int)) (a : List Int), (l.foldl (fun a c => if c.length ≤ 7 then a.set c.length (wrap64 (a.getD c.length 0 + 1)) else a) a).length = a.length
  | [], a => rfl
  | c :: l, a => by
    rw [List.foldl_cons, fold_len l]
    split
    · rw [List.length_set]
    · rfl
theorem lens_len (p : List Int) : (lensL p).length < 100000000 := by
  rw [lensL, fold_len]; simp
theorem pure_PermConjugate : ∀ (l0 : List Int) (l1 : List Int) (l2 : List Int), l0.length ≤ maxLen → l0.length * 8 ≤ 140737488351232 → (∀ x ∈ l0, (Lit.int .i64 x).wf = true) → l1.length ≤ maxLen → l1.length * 8 ≤ 140737488351232 → (∀ x ∈ l1, (Lit.int .i64 x).wf = true) → l2.length ≤ maxLen → l2.length * 8 ≤ 140737488351232 → (∀ x ∈ l2, (Lit.int .i64 x).wf = true) → ∃ k, Pq.commodatumlaw01_PermConjugate.f k l0 l1 l2 = some true := by
  intro p q c _ _ _ _ _ _ _ _ _
  refine Ev.rounds (g := fun k => Pq.commodatumlaw01_PermConjugate.f k p q c) ?_
  simp only [commodatumlaw01_PermConjugate.f]
  refine Ev.bind (usable_ p [q, c] (by simp)) ?_
  by_cases hu : usableL [p, q, c] p.length = true
  · simp only [hu, if_true]
    have hu := of_decide_eq_true hu
    have hp := (hu p (by simp)).1
    obtain ⟨hq, hql⟩ := hu q (by simp)
    obtain ⟨hc, hcl⟩ := hu c (by simp)
    have hl : p.length = q.length := hql.symm
    obtain ⟨hpi, b, b7, _⟩ := valid_into hp
    have hv := valid_inv hc
    have hvp : validB (mulL (invL c) p) = true := valid_mul hv hp (by rw [invL_len, hcl])
    have hvl : (mulL (invL c) p).length = c.length := by rw [mulL_len, invL_len]
    have hr : validB (mulL (mulL (invL c) p) c) = true := valid_mul hvp hc hvl
    have hrl : (mulL (mulL (invL c) p) c).length = p.length := by rw [mulL_len, hvl, hcl]
    have hconj := (conj_iff hp hr hc hrl.symm hcl).1 rfl
    have a1 : alikeL p (mulL (mulL (invL c) p) c) = 0 := by rw [alikeL, if_pos ⟨hp, hr⟩, if_pos hrl.symm]
    have a2 : alikeL p q = 0 := by rw [alikeL, if_pos ⟨hp, hq⟩, if_pos hl]
    have c1 := conj_ p (mulL (mulL (invL c) p) c)
    have c2 := conj_ p q
    rw [if_pos a1] at c1
    rw [if_pos a2] at c2
    refine Ev.bind (perm_Inverse_ hc) (Ev.bind (law_mul hv hp (by rw [invL_len, hcl])) (Ev.bind (law_mul hvp hc hvl) ?_))
    have hsome : srch p (mulL (mulL (invL c) p) c) (fact p.length) 0 ≠ none :=
      (srch_iff hp hr hrl.symm).2 ((lens_conj hp hr hrl.symm).1 ⟨c, hc, hcl, hconj⟩)
    obtain ⟨x, hx⟩ := Option.ne_none_iff_exists'.1 hsome
    have hless := srch_least hp hc hcl hconj hx
    rw [hx] at c1
    have hxl : x.length = p.length := by
      obtain ⟨j, _, hj, e, _⟩ := srch_some p _ _ _ _ hx
      rw [e]; exact unr_len _ _ (by omega)
    refine Ev.bind c1 (Ev.bind c2 ?_)
    have hls := less_ c x (by rw [hcl, hxl]) (by rw [hcl]; exact b7)
    rw [hless] at hls
    simp only [if_true]
    refine Ev.bind hls ?_
    simp only [Bool.false_eq_true, if_false]
    refine Ev.bind (lengths_ hp) (Ev.bind (lengths_ hq) (Ev.bind (sameInts _ _ (lens_len p)) ?_))
    have hiff := srch_iff hp hq hl
    cases hs : srch p q (fact p.length) 0 with
    | none =>
      rw [hs] at hiff
      have hne : ¬ lensL p = lensL q := fun h => (hiff.2 h) rfl
      simp only [decide_eq_false hne]
      refine Ev1 (f := fun k => (commodatumlaw01_alive.f k).bind fun t => some t) alive' fun k => ?_
      simp only [commodatumlaw01_PermConjugate.j0]
      rw [if_neg (by decide), if_neg (by decide), if_pos trivial]
    | some y =>
      rw [hs] at hiff
      have heq : lensL p = lensL q := hiff.1 (by simp)
      simp only [decide_eq_true heq]
      obtain ⟨j, _, hj, e, hy, _⟩ := srch_some p q _ _ _ hs
      have hj : j < fact p.length := by omega
      have hyv : validB y = true := by rw [e]; exact valid_unr b b7 hj
      have hyl : y.length = p.length := by rw [e]; exact unr_len _ _ hj
      have hyi := valid_inv hyv
      have hyp : validB (mulL (invL y) p) = true := valid_mul hyi hp (by rw [invL_len, hyl])
      have hypl : (mulL (invL y) p).length = y.length := by rw [mulL_len, invL_len]
      have hfin := (conj_iff hp hq hyv hl hyl).2 hy
      refine Ev1 (f := fun k => (perm_Inverse.f k y).bind fun bt142 => ((commodatumlaw01_mul.f k bt142.1 p).bind fun t146 => ((commodatumlaw01_mul.f k t146 y).bind fun t149 => ((commodatumref01_Same.f k t149 q).bind fun t152 => (if t152 = true then ((commodatumlaw01_alive.f k).bind fun t153 => (some t153)) else (some false)))))) ?_ (fun k => by simp only [commodatumlaw01_PermConjugate.j0]; rw [if_neg (by decide), if_pos trivial])
      refine Ev.bind (perm_Inverse_ hyv) (Ev.bind (law_mul hyi hp (by rw [invL_len, hyl])) (Ev.bind (law_mul hyp hyv hypl) (Ev.bind (same_eq hfin (by rw [mulL_len, hypl, hyl]; omega)) ?_)))
      simp only [if_true]
      exact alive'
  · simp only [hu, if_false]
    exact alive'
end Go.Proofs.Ytjfhogholmabfaa.PureF
namespace Go.Proofs.Ytjfhogholmabfaa.Pure
theorem pure_PermConjugate : ∀ (l0 : List Int) (l1 : List Int) (l2 : List Int), l0.length ≤ maxLen → l0.length * 8 ≤ 140737488351232 → (∀ x ∈ l0, (Lit.int .i64 x).wf = true) → l1.length ≤ maxLen → l1.length * 8 ≤ 140737488351232 → (∀ x ∈ l1, (Lit.int .i64 x).wf = true) → l2.length ≤ maxLen → l2.length * 8 ≤ 140737488351232 → (∀ x ∈ l2, (Lit.int .i64 x).wf = true) → ∃ k, Pq.commodatumlaw01_PermConjugate.f k l0 l1 l2 = some true := PureF.pure_PermConjugate
end Go.Proofs.Ytjfhogholmabfaa.Pure
end
