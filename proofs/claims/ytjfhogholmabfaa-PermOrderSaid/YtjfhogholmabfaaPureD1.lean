/- The pure statement of PermOrder: for all inputs the printed function answers true. No condition. -/
import Derived.Test.YtjfhogholmabfaaPureB4
import Derived.Test.YtjfhogholmabfaaPureD01
import Derived.Test.YtjfhogholmabfaaPureD02
import Derived.Test.YtjfhogholmabfaaPureD03
import Derived.Test.YtjfhogholmabfaaPox2
namespace Go.Proofs.Ytjfhogholmabfaa.PureD
set_option linter.unusedVariables false
set_option linter.unusedSimpArgs false
open Go.RowKit Go.Proofs.YtjfhogholmabfaaW.PrintWords Go.Proofs.YtjfhogholmabfaaW.PrintLast Go.Proofs.YtjfhogholmabfaaW.PrintMore
open Giv Go.Proofs.Ytjfhogholmabfaa.Pure Po
open Pa (commodatumlaw01_alive.f commodatumlaw01_usable.f commodatumlaw01_mul.f perm_mul.f perm_identity.f perm_Mul.f perm_Commutator.f perm_Identity.f commodatumref01_Valid.f commodatumref01_Same.f)
theorem equal_l0 (x y : List Int) (hl : x.length = y.length) (hn : x.length < 100000000) : ∀ d i, i + d = x.length → Ev (fun k => api_Perm_int.l0 k x y x.length i) (decide (x.drop i = y.drop i))
  | 0, i, h => by
    rw [decide_eq_true (by rw [List.drop_of_length_le (by omega), List.drop_of_length_le (by omega)])]
    refine EvS fun k => ?_
    simp only [api_Perm_int.l0]
    rw [if_neg (by omega)]
  | d + 1, i, h => by
    have h1 : i < x.length := by omega
    have h2 : i < y.length := by omega
    have e : (x.drop i = y.drop i) = (x[i] = y[i] ∧ x.drop (i + 1) = y.drop (i + 1)) := by
      rw [List.drop_eq_getElem_cons h1, List.drop_eq_getElem_cons h2, List.cons.injEq]
    by_cases he : x[i] = y[i]
    · have ih := equal_l0 x y hl hn d (i + 1) (by omega)
      rw [decide_eq_decide.2 (show (x.drop i = y.drop i) ↔ x.drop (i + 1) = y.drop (i + 1) by rw [e]; simp [he])]
      refine Ev1 ih fun k => ?_
      simp only [api_Perm_int.l0]
      rw [if_pos (by omega), if_pos (by omega), if_pos (by omega), if_pos (by omega), rd_at _ _ h1, rd_at _ _ h2, if_pos he, w64 _ (by omega)]
    · rw [decide_eq_false (by rw [e]; simp [he])]
      refine EvS fun k => ?_
      simp only [api_Perm_int.l0]
      rw [if_pos (by omega), if_pos (by omega), if_pos (by omega), if_pos (by omega), rd_at _ _ h1, rd_at _ _ h2, if_neg he]
theorem equal (x y : List Int) (hn : x.length < 100000000) : Ev (fun k => api_Perm_int.f k x y) (decide (x = y)) := by
  by_cases hl : x.length = y.length
  · have h := equal_l0 x y hl hn x.length 0 (by omega)
    refine EvC h fun k => ?_
    simp only [api_Perm_int.f]
    rw [if_pos (by omega)]; rfl
  · rw [decide_eq_false (by rintro rfl; exact hl rfl)]
    refine EvC (Ev.now false) fun k => ?_
    simp only [api_Perm_int.f]
    rw [if_neg (by omega)]
theorem order_l0 {p : List Int} (hp : validB p = true) {o : Nat} (ho : IsOrd p o) : ∀ d n, 1 ≤ n → n + d = o → Ev (fun k => perm_Order.l0 k p n (powL p n)) (o : Int)
  | d, n, h1, hd => by
    obtain ⟨a, b, c, _⟩ := valid_into hp
    obtain ⟨o1, o2, o3, o4⟩ := ho
    have hv := (valid_into (powL_valid hp n)).1
    rw [powL_len] at hv
    cases d with
    | zero =>
      obtain rfl : n = o := by omega
      refine Ev1 (f := fun k => (perm_identity.f k (p.length : Int)).bind fun t148 => ((api_Perm_int.f k (powL p n) t148).bind fun t151 => (if t151 = true then (some (n : Int)) else ((perm_mul.f k (powL p n) p).bind fun t152 => (perm_Order.l0 k p (wrap64 ((n : Int) + 1)) t152))))) ?_ (fun k => rfl)
      refine Ev.bind (identity_ _ c) (Ev.bind (equal _ _ (by rw [powL_len]; omega)) ?_)
      simp only [o3, decide_true, if_true]
      exact Ev.now _
    | succ d =>
      have ih := order_l0 hp ⟨o1, o2, o3, o4⟩ d (n + 1) (by omega) (by omega)
      refine Ev1 (f := fun k => (perm_identity.f k (p.length : Int)).bind fun t148 => ((api_Perm_int.f k (powL p n) t148).bind fun t151 => (if t151 = true then (some (n : Int)) else ((perm_mul.f k (powL p n) p).bind fun t152 => (perm_Order.l0 k p (wrap64 ((n : Int) + 1)) t152))))) ?_ (fun k => rfl)
      refine Ev.bind (identity_ _ c) (Ev.bind (equal _ _ (by rw [powL_len]; omega)) ?_)
      simp only [decide_eq_false (o4 n h1 (by omega)), Bool.false_eq_true, if_false]
      refine Ev.bind (perm_mul _ _ hv (by rw [powL_len]; omega)) ?_
      simp only [w64 n (by omega)]
      exact ih
theorem order_ {p : List Int} (hp : validB p = true) {o : Nat} (ho : IsOrd p o) : Ev (fun k => perm_Order.f k p) (o : Int) := by
  have h := order_l0 hp ho (o - 1) 1 (by omega) (by have := ho.1; omega)
  rw [powL_one] at h
  simp only [perm_Order.f, perm_Valid.f, Option.bind_some, hp, if_true]
  exact h
theorem power_l0 {p : List Int} (hp : validB p = true) (e : Nat) (he : e < 1000000) : ∀ d i, i + d = e → Ev (fun k => perm_Power.l0 k p (powL p i) e i) (powL p e, 0)
  | 0, i, h => by
    obtain rfl : i = e := by omega
    refine EvS fun k => ?_
    simp only [perm_Power.l0]
    rw [if_neg (by omega)]
  | d + 1, i, h => by
    have ih := power_l0 hp e he d (i + 1) (by omega)
    have hv := (valid_into (powL_valid hp i)).1
    rw [powL_len] at hv
    obtain ⟨a, b, c, _⟩ := valid_into hp
    refine Ev1 (f := fun k => (perm_mul.f k (powL p i) p).bind fun t309 => (perm_Power.l0 k p t309 e (wrap64 ((i : Int) + 1)))) ?_ (fun k => by simp only [perm_Power.l0]; rw [if_pos (by omega)])
    refine Ev.bind (perm_mul _ _ hv (by rw [powL_len]; omega)) ?_
    simp only [w64 i (by omega)]
    exact ih
theorem power_ {p : List Int} (hp : validB p = true) {o : Nat} (ho : IsOrd p o) (a : Int) : Ev (fun k => perm_Power.f k p a) (powL p (expo a o).toNat, 0) := by
  obtain ⟨_, b, c, _⟩ := valid_into hp
  have hb := expo_bd a o ho.1 ho.2.1
  have h := power_l0 hp (expo a o).toNat (by have := ho.2.1; omega) (expo a o).toNat 0 (by omega)
  simp only [perm_Power.f, perm_Valid.f, Option.bind_some, hp, if_true]
  refine Ev.bind (order_ hp ho) (Ev.bind (identity_ _ c) ?_)
  simp only [show ¬ ((o : Nat) : Int) = 0 by have := ho.1; omega, if_false]
  rw [show (((expo a o).toNat : Nat) : Int) = expo a o by omega] at h
  exact h

theorem cho_all {p : List Int} (hp : validB p = true) : chkO p = true := by
  obtain ⟨a, b, c, d⟩ := valid_into hp
  generalize hl : p.length = n at a b c
  have h0 : ∀ f, allExt n f n [] = true → f p = true := fun f h => allExt_mem hl a d n 0 (by omega) h
  have hc : n = 1 ∨ n = 2 ∨ n = 3 ∨ n = 4 ∨ n = 5 ∨ n = 6 ∨ n = 7 := by omega
  rcases hc with rfl | rfl | rfl | rfl | rfl | rfl | rfl
  · exact h0 _ cho1
  · exact h0 _ cho2
  · exact h0 _ cho3
  · exact h0 _ cho4
  · exact h0 _ cho5
  · exact h0 _ cho6
  · have h1 : (p.take 1) = [p[0]'(by omega)] := by
      rw [List.take_succ_eq_append_getElem (by omega)]; simp
    have hx := a.at 0 (by omega)
    rw [getD_at _ _ (by omega)] at hx
    refine allExt_mem hl a d 6 1 (by omega) ?_
    rw [h1]
    have hc : p[0]'(by omega) = 0 ∨ p[0]'(by omega) = 1 ∨ p[0]'(by omega) = 2 ∨ p[0]'(by omega) = 3 ∨ p[0]'(by omega) = 4 ∨ p[0]'(by omega) = 5 ∨ p[0]'(by omega) = 6 := by omega
    rcases hc with h | h | h | h | h | h | h <;> rw [h]
    · exact cho7_0
    · exact cho7_1
    · exact cho7_2
    · exact cho7_3
    · exact cho7_4
    · exact cho7_5
    · exact cho7_6
theorem fin_all {p : List Int} (hp : validB p = true) : ∃ o, IsOrd p o ∧ fin p o = true := by
  have h := cho_all hp
  have h2 : chkW 13 1 p (powL p 1) = true := by rw [powL_one]; exact h
  exact chkW_ord 13 1 (by omega) (by omega) h2 (fun j a b => by omega)
theorem par {p : List Int} (hp : validB p = true) : perm_Parity.f p = some ((invs p % 2 : Nat) : Int) := by
  obtain ⟨o, _, h⟩ := fin_all hp
  simp only [fin, Bool.and_eq_true, decide_eq_true_eq] at h
  rw [perm_Parity.f, if_pos hp, h.2]
theorem expo_zero (a : Int) (o : Nat) (h1 : 1 ≤ o) (h2 : o ≤ 823543) : (expo a o).toNat = 0 ↔ Int.tmod a o = 0 := by
  have b1 : Int.tmod a (o : Int) < o := Int.tmod_lt_of_pos a (by omega)
  have b2 : -(o : Int) < Int.tmod a (o : Int) := by
    have := Int.lt_tmod_of_pos a (show (0 : Int) < (o : Int) by omega)
    omega
  unfold expo
  generalize Int.tmod a (o : Int) = t at b1 b2
  have e : wrap64 (t + o) = t + o := by unfold wrap64; omega
  rw [e, Int.tmod_eq_emod_of_nonneg (by omega)]
  clear e
  by_cases ht : t < 0
  · rw [Int.emod_eq_of_lt (by omega) (by omega)]; omega
  · have : (t + (o : Int)) % (o : Int) = t := by
      rw [Int.add_emod_right, Int.emod_eq_of_lt (by omega) (by omega)]
    rw [this]; omega
theorem up_l1 {p q : List Int} {o : Int} {l : List (List Int)} {all n' : Int} {i : Nat} (hi : i < l.length) (hn : (l.getD i []).length ≠ 0)
    (hr : Ev (fun k => commodatumlaw01_PermOrder.l0 k p q o l n' (wrap64 ((i : Int) + 1))) true) : ∀ m n, Go.Proofs.Ytjfhogholmabfaa.Pure.up m n all ((l.getD i []).length : Int) = some n' → Ev (fun k => commodatumlaw01_PermOrder.l1 k p q o l all i n) true
  | 0, n, h => by simp [Go.Proofs.Ytjfhogholmabfaa.Pure.up] at h
  | m + 1, n, h => by
    have e : rd_L2 l (i : Int) = l.getD i [] := rfl
    simp only [Go.Proofs.Ytjfhogholmabfaa.Pure.up] at h
    by_cases c : Int.tmod n ((l.getD i []).length : Int) = 0
    · rw [if_pos c] at h
      obtain rfl := Option.some.inj h
      refine Ev1 hr fun k => ?_
      simp only [commodatumlaw01_PermOrder.l1]
      rw [if_pos (by omega), if_pos (by omega), e, if_neg (by omega), if_pos c]
    · rw [if_neg c] at h
      have ih := up_l1 hi hn hr m _ h
      refine Ev1 ih fun k => ?_
      simp only [commodatumlaw01_PermOrder.l1]
      rw [if_pos (by omega), if_pos (by omega), e, if_neg (by omega), if_neg c]
theorem lc_l0 {p q : List Int} {o : Int} {l : List (List Int)} (hl : l.length < 1000)
    (hE : Ev (fun k => commodatumlaw01_PermOrder.l0 k p q o l o (l.length : Int)) true) : ∀ m all i, i ≤ l.length → lc m o l all i = some o → Ev (fun k => commodatumlaw01_PermOrder.l0 k p q o l all (i : Int)) true
  | 0, all, i, _, h => by simp [lc] at h
  | m + 1, all, i, hi, h => by
    have e : rd_L2 l (i : Int) = l.getD i [] := rfl
    simp only [lc] at h
    by_cases c : i < l.length
    · rw [if_pos c] at h
      by_cases c0 : (l.getD i []).length = 0
      · rw [if_pos c0] at h; simp at h
      · rw [if_neg c0] at h
        by_cases c1 : Int.tmod o ((l.getD i []).length : Int) = 0
        · rw [if_pos c1] at h
          obtain ⟨n, hn, h⟩ := Option.bind_eq_some_iff.1 h
          have ih := lc_l0 hl hE m n (i + 1) (by omega) h
          rw [← w64 i (by omega)] at ih
          refine Ev1 (f := fun k => commodatumlaw01_PermOrder.j2 k p q o l all i false) ?_ (fun k => ?_)
          · refine Ev1 (up_l1 c c0 ih 20 all hn) fun k => ?_
            simp only [commodatumlaw01_PermOrder.j2, Bool.false_eq_true, if_false]
          · simp only [commodatumlaw01_PermOrder.l0]
            rw [if_pos (by omega), if_pos (by omega), e, if_neg (by omega), c1]
            rfl
        · rw [if_neg c1] at h; simp at h
    · rw [if_neg c] at h
      obtain rfl := Option.some.inj h
      obtain rfl : i = l.length := by omega
      exact hE
theorem eb_of {p : List Int} {o : Nat} (ho : IsOrd p o) (a : Int) : (decide (powL p (expo a o).toNat = idn p.length) != (Int.tmod a (o : Int) == 0)) = false := by
  have o1 := ho.1
  have o2 := ho.2.1
  have hz := expo_zero a o o1 o2
  by_cases h0 : (expo a o).toNat = 0
  · rw [h0, hz.1 h0]
    simp [powL]
  · have hb := expo_bd a o o1 o2
    have h1 : powL p (expo a o).toNat ≠ idn p.length := by
      clear hz
      exact ho.2.2.2 _ (by omega) (by omega)
    have h2 : ¬ Int.tmod a (o : Int) = 0 := fun h => h0 (hz.2 h)
    simp [h1, h2]
theorem par_sum {a b c : Nat} (h : (a + b) % 2 = c % 2) : ((a % 2 : Nat) : Int) = Int.tmod (wrap64 (((b % 2 : Nat) : Int) + ((c % 2 : Nat) : Int))) 2 := by
  have e : a % 2 = (b % 2 + c % 2) % 2 := by omega
  rw [e]
  rcases (show b % 2 = 0 ∨ b % 2 = 1 by omega) with x | x <;> rcases (show c % 2 = 0 ∨ c % 2 = 1 by omega) with y | y <;> rw [x, y] <;> decide +kernel
theorem l0_end (k : Nat) (p q : List Int) (o al : Int) (l : List (List Int)) : commodatumlaw01_PermOrder.l0 (k + 1) p q o l al (l.length : Int) = (perm_Commutator.f k p q).bind fun bt140 => (if al = o then (if bt140.2 = 0 then ((perm_Parity.f bt140.1).bind fun t144 => (if t144 = 0 then ((commodatumlaw01_mul.f k p q).bind fun t145 => ((perm_Parity.f t145).bind fun t148 => ((perm_Parity.f p).bind fun t149 => ((perm_Parity.f q).bind fun t150 => (if t148 = (Int.tmod (wrap64 (t149 + t150)) 2) then ((commodatumlaw01_alive.f k).bind fun t151 => (some t151)) else (some false)))))) else (some false))) else (some false)) else (some false)) := by
  simp only [commodatumlaw01_PermOrder.l0]
  rw [if_neg (Int.lt_irrefl _)]
theorem comm_valid {p q : List Int} (hp : validB p = true) (hq : validB q = true) (hl : p.length = q.length) : validB (commL p q) = true := by
  unfold commL
  exact valid_mul (valid_mul (valid_inv hp) (valid_inv hq) (by rw [invL_len, invL_len, hl])) (valid_mul hp hq hl) (by rw [mulL_len, mulL_len, invL_len])
theorem comm_par {p q : List Int} (hp : validB p = true) (hq : validB q = true) (hl : p.length = q.length) : perm_Parity.f (commL p q) = some 0 := by
  rw [par (comm_valid hp hq hl), invs_comm hp hq hl]; rfl
theorem if_ev {c : Prop} [Decidable c] {f g : Nat → Option Bool} (h : c) (hf : Ev f true) : Ev (fun k => if c then f k else g k) true := EvC hf fun k => if_pos h
theorem mul_par' (x y z : Int) (h : z = Int.tmod (wrap64 (x + y)) 2) {a b c : Option Int} (ha : a = some z) (hb : b = some x) (hc : c = some y) : Ev (fun k => a.bind fun t148 => (b.bind fun t149 => (c.bind fun t150 => (if t148 = (Int.tmod (wrap64 (t149 + t150)) 2) then ((commodatumlaw01_alive.f k).bind fun t151 => (some t151)) else (some false))))) true := by
  subst ha hb hc
  exact if_ev h alive'
theorem mul_par {p q : List Int} (hp : validB p = true) (hq : validB q = true) (hl : p.length = q.length) : Ev (fun k => (perm_Parity.f (mulL p q)).bind fun t148 => ((perm_Parity.f p).bind fun t149 => ((perm_Parity.f q).bind fun t150 => (if t148 = (Int.tmod (wrap64 (t149 + t150)) 2) then ((commodatumlaw01_alive.f k).bind fun t151 => (some t151)) else (some false))))) true :=
  mul_par' _ _ _ (par_sum (invs_mul hp hq hl)) (par (valid_mul hp hq hl)) (par hp) (par hq)
theorem hE_of {p q : List Int} (hp : validB p = true) (hq : validB q = true) (hl : p.length = q.length) (o : Int) (l : List (List Int)) : Ev (fun k => commodatumlaw01_PermOrder.l0 k p q o l o (l.length : Int)) true := by
  have hal : alikeL p q = 0 := by rw [alikeL, if_pos ⟨hp, hq⟩, if_pos hl]
  have hc := perm_Commutator p q
  rw [if_pos hal] at hc
  refine Ev1 (f := fun k => (perm_Commutator.f k p q).bind fun bt140 => (if o = o then (if bt140.2 = 0 then ((perm_Parity.f bt140.1).bind fun t144 => (if t144 = 0 then ((commodatumlaw01_mul.f k p q).bind fun t145 => ((perm_Parity.f t145).bind fun t148 => ((perm_Parity.f p).bind fun t149 => ((perm_Parity.f q).bind fun t150 => (if t148 = (Int.tmod (wrap64 (t149 + t150)) 2) then ((commodatumlaw01_alive.f k).bind fun t151 => (some t151)) else (some false)))))) else (some false))) else (some false)) else (some false))) ?_ (fun k => l0_end k p q o o l)
  refine Ev.bind hc ?_
  refine if_ev rfl (if_ev rfl ?_)
  have h0 : Ev (fun k => (commodatumlaw01_mul.f k p q).bind fun t145 => ((perm_Parity.f t145).bind fun t148 => ((perm_Parity.f p).bind fun t149 => ((perm_Parity.f q).bind fun t150 => (if t148 = (Int.tmod (wrap64 (t149 + t150)) 2) then ((commodatumlaw01_alive.f k).bind fun t151 => (some t151)) else (some false)))))) true := Ev.bind (law_mul hp hq hl) (mul_par hp hq hl)
  refine EvC h0 fun k => ?_
  simp only [comm_par hp hq hl, Option.bind_some, if_true]
theorem pure_PermOrder : ∀ (l0 : List Int) (l1 : List Int) (a2 : Int), l0.length ≤ maxLen → l0.length * 8 ≤ 140737488351232 → (∀ x ∈ l0, (Lit.int .i64 x).wf = true) → l1.length ≤ maxLen → l1.length * 8 ≤ 140737488351232 → (∀ x ∈ l1, (Lit.int .i64 x).wf = true) → (Lit.int .i64 a2).wf = true → ∃ k, Po.commodatumlaw01_PermOrder.f k l0 l1 a2 = some true := by
  intro p q a _ _ _ _ _ _ _
  refine Ev.rounds (g := fun k => Po.commodatumlaw01_PermOrder.f k p q a) ?_
  simp only [commodatumlaw01_PermOrder.f]
  refine Ev.bind (usable_ p [q] (by simp)) ?_
  by_cases hu : usableL [p, q] p.length = true
  · simp only [hu, if_true]
    have hu := of_decide_eq_true hu
    have hp := (hu p (by simp)).1
    obtain ⟨hq, hql⟩ := hu q (by simp)
    have hl : p.length = q.length := hql.symm
    obtain ⟨_, b, c, _⟩ := valid_into hp
    obtain ⟨o, ho, hf⟩ := fin_all hp
    simp only [fin, Bool.and_eq_true, decide_eq_true_eq] at hf
    replace hf := hf.1
    have o1 := ho.1
    have o2 := ho.2.1
    have hb := expo_bd a o o1 o2
    refine Ev.bind (perm_Identity_ _ b c) (Ev.bind (power_ hp ho a) (Ev.bind (order_ hp ho) ?_))
    simp only [perm_Cycles.f, Option.bind_some, hp, if_true, show ¬ (o : Int) < 1 by omega, if_false]
    refine Ev.bind (same _ _ (by rw [powL_len]; omega)) ?_
    have hz0 : ¬ (o : Int) = 0 := by omega
    simp only [hz0, if_false, eb_of ho a]
    have hE := hE_of hp hq hl o (cycL p)
    have hlen : (cycL p).length < 1000 := by
      have : (cycL p).length ≤ p.length := cyc_count p p.length 0 []
      omega
    refine Ev1 (f := fun k => commodatumlaw01_PermOrder.l0 k p q o (cycL p) 1 ((0 : Nat) : Int)) ?_ (fun k => by simp only [commodatumlaw01_PermOrder.j0, Bool.false_eq_true, if_false]; rfl)
    exact lc_l0 hlen hE 8 1 0 (Nat.zero_le _) hf
  · simp only [hu, if_false]
    exact alive'
end Go.Proofs.Ytjfhogholmabfaa.PureD
namespace Go.Proofs.Ytjfhogholmabfaa.Pure
theorem pure_PermOrder : ∀ (l0 : List Int) (l1 : List Int) (a2 : Int), l0.length ≤ maxLen → l0.length * 8 ≤ 140737488351232 → (∀ x ∈ l0, (Lit.int .i64 x).wf = true) → l1.length ≤ maxLen → l1.length * 8 ≤ 140737488351232 → (∀ x ∈ l1, (Lit.int .i64 x).wf = true) → (Lit.int .i64 a2).wf = true → ∃ k, Po.commodatumlaw01_PermOrder.f k l0 l1 a2 = some true := PureD.pure_PermOrder
end Go.Proofs.Ytjfhogholmabfaa.Pure
