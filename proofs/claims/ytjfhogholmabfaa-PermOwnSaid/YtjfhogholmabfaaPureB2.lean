-- CUT by a program of this session: what the claim does not use is left out
import Derived.Test.YtjfhogholmabfaaPureB0
import Derived.Test.YtjfhogholmabfaaPax6
namespace Go.Proofs.Ytjfhogholmabfaa.Pure
set_option linter.unusedVariables false
set_option linter.unusedSimpArgs false
open Go.RowKit Go.Proofs.YtjfhogholmabfaaW.PrintWords Go.Proofs.YtjfhogholmabfaaW.PrintLast Go.Proofs.YtjfhogholmabfaaW.PrintMore
open Pa Giv

def powL (p : List Int) : Nat → List Int
  | 0 => idn p.length
  | m + 1 => mulL (powL p m) p
theorem powL_len (p : List Int) : ∀ m, (powL p m).length = p.length
  | 0 => idn_len _
  | m + 1 => by rw [powL, mulL_len, powL_len p m]
theorem powL_valid {p : List Int} (hp : validB p = true) : ∀ m, validB (powL p m) = true
  | 0 => by obtain ⟨a, b, c, d⟩ := valid_into hp; exact valid_idn b c
  | m + 1 => valid_mul (powL_valid hp m) hp (powL_len p m)
theorem powL_one {p : List Int} : powL p 1 = p := by rw [powL, powL, id_mul]
theorem powL_add {p : List Int} (hp : validB p = true) (i : Nat) : ∀ d, powL p (i + d) = mulL (powL p i) (powL p d)
  | 0 => by
    have := (valid_into (powL_valid hp i)).1
    rw [powL_len] at this
    rw [Nat.add_zero, powL, mul_id this]
  | d + 1 => by
    have := (valid_into (powL_valid hp i)).1
    rw [powL_len] at this
    rw [← Nat.add_assoc, powL, powL_add hp i d, powL, mul_assoc' p (by rw [powL_len]; exact this)]
theorem cancel {x y : List Int} (hx : validB x = true) (hl : x.length = y.length) (h : mulL x y = x) : y = idn x.length := by
  obtain ⟨a, b, c, d⟩ := valid_into hx
  have h1 : mulL (invL x) (mulL x y) = mulL (invL x) x := by rw [h]
  rw [← mul_assoc' y (into_inv b), inv_mul a d, hl, id_mul] at h1
  rw [h1, hl]
def codeL : List Int → Nat
  | [] => 0
  | x :: r => x.toNat + 7 * codeL r
theorem code_lt : ∀ (l : List Int), Into l 7 → codeL l < 7 ^ l.length
  | [], _ => by decide
  | x :: r, h => by
    have h1 := h x List.mem_cons_self
    have h2 := code_lt r (fun y hy => h y (List.mem_cons_of_mem _ hy))
    simp only [codeL, List.length_cons, Nat.pow_succ]
    omega
theorem code_inj : ∀ (l m : List Int), l.length = m.length → Into l 7 → Into m 7 → codeL l = codeL m → l = m
  | [], [], _, _, _, _ => rfl
  | x :: r, y :: s, hl, h, g, e => by
    have h1 := h x List.mem_cons_self
    have g1 := g y List.mem_cons_self
    simp only [codeL] at e
    simp only [List.length_cons, Nat.add_right_cancel_iff] at hl
    have e2 : codeL r = codeL s := by omega
    rw [code_inj r s hl (fun z hz => h z (List.mem_cons_of_mem _ hz)) (fun z hz => g z (List.mem_cons_of_mem _ hz)) e2, show x = y by omega]
theorem least {P : Nat → Prop} : ∀ n, P n → ∃ m, m ≤ n ∧ P m ∧ ∀ j, j < m → ¬ P j
  | n, h => by
    induction n using Nat.strongRecOn with
    | _ n ih =>
      by_cases hj : ∃ j, j < n ∧ P j
      · obtain ⟨j, hlt, hp⟩ := hj
        obtain ⟨m, h1, h2, h3⟩ := ih j hlt hp
        exact ⟨m, by omega, h2, h3⟩
      · exact ⟨n, Nat.le_refl _, h, fun j hlt hp => hj ⟨j, hlt, hp⟩⟩
theorem some_power {p : List Int} (hp : validB p = true) : ∃ o, 1 ≤ o ∧ o ≤ 7 ^ p.length ∧ powL p o = idn p.length := by
  obtain ⟨a, b, c, d⟩ := valid_into hp
  refine Classical.byContradiction fun hno => ?_
  have hinto : ∀ m, Into (powL p m) 7 := fun m x hx => by
    have := (valid_into (powL_valid hp m)).1 x hx
    rw [powL_len] at this
    omega
  have hnd : ((List.range (7 ^ p.length + 1)).map fun m => codeL (powL p m)).Nodup := by
    refine List.pairwise_iff_getElem.2 fun i j hi hj hij he => hno ?_
    simp only [List.length_map, List.length_range] at hi hj
    simp only [List.getElem_map, List.getElem_range] at he
    have he := code_inj _ _ (by rw [powL_len, powL_len]) (hinto i) (hinto j) he
    obtain ⟨t, rfl⟩ : ∃ t, j = i + t := ⟨j - i, by omega⟩
    rw [powL_add hp] at he
    have := cancel (powL_valid hp i) (by rw [powL_len, powL_len]) he.symm
    rw [powL_len] at this
    exact ⟨t, by omega, by omega, this⟩
  have := nodup_len _ (List.range (7 ^ p.length)) hnd (fun x hx => by
    obtain ⟨m, _, rfl⟩ := List.mem_map.1 hx
    have := code_lt _ (hinto m)
    rw [powL_len] at this
    exact List.mem_range.2 this)
  simp only [List.length_map, List.length_range] at this
  omega
def IsOrd (p : List Int) (o : Nat) : Prop := 1 ≤ o ∧ o ≤ 823543 ∧ powL p o = idn p.length ∧ ∀ j, 1 ≤ j → j < o → powL p j ≠ idn p.length
theorem ord_ex {p : List Int} (hp : validB p = true) : ∃ o, IsOrd p o := by
  obtain ⟨a, b, c, d⟩ := valid_into hp
  obtain ⟨o, h1, h2, h3⟩ := some_power hp
  obtain ⟨m, hm, ⟨hm1, hm2⟩, hm3⟩ := least (P := fun m => 1 ≤ m ∧ powL p m = idn p.length) o ⟨h1, h3⟩
  have h7 : 7 ^ p.length ≤ 7 ^ 7 := Nat.pow_le_pow_right (by omega) c
  exact ⟨m, hm1, by omega, hm2, fun j h1 h2 h3 => hm3 j h2 ⟨h1, h3⟩⟩
theorem order_l0 {p : List Int} (hp : validB p = true) {o : Nat} (ho : IsOrd p o) : ∀ d n, 1 ≤ n → n + d = o → Ev (fun k => perm_Order.l0 k p n (powL p n)) (o : Int)
  | d, n, h1, hd => by
    obtain ⟨a, b, c, _⟩ := valid_into hp
    obtain ⟨o1, o2, o3, o4⟩ := ho
    have hv := (valid_into (powL_valid hp n)).1
    rw [powL_len] at hv
    cases d with
    | zero =>
      obtain rfl : n = o := by omega
      refine Ev1 (f := fun k => (perm_identity.f k (p.length : Int)).bind fun t148 => ((api_Perm_int.f k (powL p n) t148).bind fun t151 => (if t151 = true then (some (n : Int)) else ((perm_mul.f k (powL p n) p).bind fun t152 => (perm_Order.l0 k p (wrap64 ((n : Int) + 1)) t152))))) ?_ (fun k => rfl)
      refine Ev.bind (identity_ _ c) (Ev.bind (equal _ _ (by rw [powL_len]; omega)) ?_)
      simp only [o3, decide_true, if_true]
      exact Ev.now _
    | succ d =>
      have ih := order_l0 hp ⟨o1, o2, o3, o4⟩ d (n + 1) (by omega) (by omega)
      refine Ev1 (f := fun k => (perm_identity.f k (p.length : Int)).bind fun t148 => ((api_Perm_int.f k (powL p n) t148).bind fun t151 => (if t151 = true then (some (n : Int)) else ((perm_mul.f k (powL p n) p).bind fun t152 => (perm_Order.l0 k p (wrap64 ((n : Int) + 1)) t152))))) ?_ (fun k => rfl)
      refine Ev.bind (identity_ _ c) (Ev.bind (equal _ _ (by rw [powL_len]; omega)) ?_)
      simp only [decide_eq_false (o4 n h1 (by omega)), Bool.false_eq_true, if_false]
      refine Ev.bind (perm_mul _ _ hv (by rw [powL_len]; omega)) ?_
      simp only [w64 n (by omega)]
      exact ih
theorem order_ {p : List Int} (hp : validB p = true) {o : Nat} (ho : IsOrd p o) : Ev (fun k => perm_Order.f k p) (o : Int) := by
  have h := order_l0 hp ho (o - 1) 1 (by omega) (by have := ho.1; omega)
  rw [powL_one] at h
  simp only [perm_Order.f, perm_Valid.f, Option.bind_some, hp, if_true]
  exact h
def expo (a : Int) (o : Nat) : Int := Int.tmod (wrap64 ((Int.tmod a (o : Int)) + (o : Int))) (o : Int)
theorem expo_bd (a : Int) (o : Nat) (h1 : 1 ≤ o) (h2 : o ≤ 823543) : 0 ≤ expo a o ∧ expo a o < (o : Int) := by
  have a1 : Int.tmod a (o : Int) < (o : Int) := Int.tmod_lt_of_pos a (by omega)
  have a2 : -(o : Int) < Int.tmod a (o : Int) := by
    have := Int.lt_tmod_of_pos a (show (0 : Int) < (o : Int) by omega)
    omega
  unfold expo
  generalize Int.tmod a (o : Int) = x at a1 a2
  have e : wrap64 (x + (o : Int)) = x + (o : Int) := by unfold wrap64; omega
  rw [e, Int.tmod_eq_emod_of_nonneg (by omega)]
  exact ⟨Int.emod_nonneg _ (by omega), Int.emod_lt_of_pos _ (by omega)⟩
theorem power_l0 {p : List Int} (hp : validB p = true) (e : Nat) (he : e < 1000000) : ∀ d i, i + d = e → Ev (fun k => perm_Power.l0 k p (powL p i) e i) (powL p e, 0)
  | 0, i, h => by
    obtain rfl : i = e := by omega
    refine EvS fun k => ?_
    simp only [perm_Power.l0]
    rw [if_neg (by omega)]
  | d + 1, i, h => by
    have ih := power_l0 hp e he d (i + 1) (by omega)
    have hv := (valid_into (powL_valid hp i)).1
    rw [powL_len] at hv
    obtain ⟨a, b, c, _⟩ := valid_into hp
    refine Ev1 (f := fun k => (perm_mul.f k (powL p i) p).bind fun t309 => (perm_Power.l0 k p t309 e (wrap64 ((i : Int) + 1)))) ?_ (fun k => by simp only [perm_Power.l0]; rw [if_pos (by omega)])
    refine Ev.bind (perm_mul _ _ hv (by rw [powL_len]; omega)) ?_
    simp only [w64 i (by omega)]
    exact ih
theorem power_ {p : List Int} (hp : validB p = true) {o : Nat} (ho : IsOrd p o) (a : Int) : Ev (fun k => perm_Power.f k p a) (powL p (expo a o).toNat, 0) := by
  obtain ⟨_, b, c, _⟩ := valid_into hp
  have hb := expo_bd a o ho.1 ho.2.1
  have h := power_l0 hp (expo a o).toNat (by have := ho.2.1; omega) (expo a o).toNat 0 (by omega)
  simp only [perm_Power.f, perm_Valid.f, Option.bind_some, hp, if_true]
  refine Ev.bind (order_ hp ho) (Ev.bind (identity_ _ c) ?_)
  simp only [show ¬ ((o : Nat) : Int) = 0 by have := ho.1; omega, if_false]
  rw [show (((expo a o).toNat : Nat) : Int) = expo a o by omega] at h
  exact h
end Go.Proofs.Ytjfhogholmabfaa.Pure
