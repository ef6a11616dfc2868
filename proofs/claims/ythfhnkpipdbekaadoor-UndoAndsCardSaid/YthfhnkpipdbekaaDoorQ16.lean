-- CUT by a program of this session: what the claim does not use is left out
import Derived.Test.YthfhnkpipdbekaaDoorQ15
import Derived.Test.YthfhnkpipdbekaaDoorQ8
import Derived.Test.YthfhnkpipdbekaaDoorTjx5
namespace Go.Proofs.YthfhnkpipdbekaaDoor.Pure
set_option linter.unusedVariables false
set_option linter.unusedSimpArgs false
open Go.RowKit Go.Proofs.YthfhnkpipdbekaaDoorW.PrintWords Go.Proofs.YthfhnkpipdbekaaDoorW.PrintLast Go.Proofs.YthfhnkpipdbekaaDoorW.PrintMore
open Ua Ta Giv Tb Tx Tj
def qs (a : Int) (l2 : List Int) (m : Nat) (j : Nat) : Int := if j < m then rd l2 (j : Int) else a
def cs (l1 : List Int) (i : Nat) : Int := rd l1 (i : Int)
def ctlL (a : Int) (l1 l2 : List Int) : List S67 :=
 if l1.length = 0 then [⟨0, a, 0, 0⟩] else if l1.length = 1 then [⟨1, a, rd l1 0, 0⟩] else if l1.length = 2 then [⟨2, a, rd l1 0, rd l1 1⟩]
 else gs (qs a l2 (l1.length - 2)) (cs l1) (l1.length - 2) ++ gs (qs a l2 (l1.length - 2)) (cs l1) (l1.length - 3)
theorem ctl_l0 {a : Int} {l1 l2 : List Int} {m : Nat} (hm : l1.length = m + 2) (hm1 : 1 ≤ m) (h2 : m ≤ l2.length) (hs : m ≤ 10000) : ∀ (d : Nat) (x8 : List S67), d ≤ m → x8 ++ dn (qs a l2 m) (cs l1) d = dn (qs a l2 m) (cs l1) m →
  Ev (fun k => undo_Controlled.l0 k l1 l2 x8 (qs a l2 m d) ((d + 1 : Nat) : Int)) (gs (qs a l2 m) (cs l1) m ++ gs (qs a l2 m) (cs l1) (m - 1))
 | 0, x8, hd, hx => by
  rw [dn, List.append_nil] at hx
  subst hx
  have hl := dn_len (qs a l2 m) (cs l1) m
  obtain ⟨e, rfl⟩ : ∃ e, m = e + 1 := ⟨m - 1, by omega⟩
  have key : Ev (fun k => (api_RevOp_68.f k (dn (qs a l2 (e + 1)) (cs l1) (e + 1))).bind fun t => (slices_Concat_ops.f [dn (qs a l2 (e + 1)) (cs l1) (e + 1), [(⟨2, qs a l2 (e + 1) 0, rd l1 0, rd l1 1⟩ : S67)], t, (dn (qs a l2 (e + 1)) (cs l1) (e + 1)).drop 1, [(⟨2, qs a l2 (e + 1) 0, rd l1 0, rd l1 1⟩ : S67)], t.take e]).bind fun t => some t) (gs (qs a l2 (e + 1)) (cs l1) (e + 1) ++ gs (qs a l2 (e + 1)) (cs l1) e) := by
   refine Ev.bind (rev_ev _ (by omega)) (EvSome fun k => ?_)
   have r1 : (dn (qs a l2 (e + 1)) (cs l1) (e + 1)).drop 1 = dn (qs a l2 (e + 1)) (cs l1) e := rfl
   have r2 : ((dn (qs a l2 (e + 1)) (cs l1) (e + 1)).reverse).take e = (dn (qs a l2 (e + 1)) (cs l1) e).reverse := by
    rw [dn, List.reverse_cons, List.take_left' (by rw [List.length_reverse, dn_len])]
   unfold slices_Concat_ops.f
   rw [if_pos (by simp [dn_len]; omega), r1, r2]
   simp [gs, tof, cs]
  refine Ev1 key fun k => ?_
  simp only [undo_Controlled.l0]
  rw [if_neg (by omega), if_pos (by omega), if_pos (by omega)]
  unfold slices_Clone_ops.f
  rw [if_pos (by omega)]
  simp only [Option.bind_some]
  have e1 : wrap64 (((dn (qs a l2 (e + 1)) (cs l1) (e + 1)).length : Int) - 1) = (e : Int) := by rw [hl]; unfold wrap64; omega
  rw [e1]
  congr 1; funext t254
  rw [if_pos (by omega), if_pos (by omega), if_pos (by omega), Int.toNat_natCast]
 | d + 1, x8, hd, hx => by
  have hl : x8.length ≤ m := by have := congrArg List.length hx; rw [List.length_append, dn_len, dn_len] at this; omega
  have q1 : qs a l2 m d = rd l2 (d : Int) := by unfold qs; rw [if_pos (by omega)]
  have ih := ctl_l0 (a := a) hm hm1 h2 hs d (x8 ++ [tof (qs a l2 m (d + 1)) (cs l1 (d + 2)) (qs a l2 m d)]) (by omega) (by rw [← hx, List.append_assoc]; rfl)
  refine Ev1 ih fun k => ?_
  simp only [undo_Controlled.l0]
  have e1 : wrap64 (((d + 1 + 1 : Nat) : Int) - 2) = (d : Int) := by unfold wrap64; omega
  have e2 : wrap64 (((d + 1 + 1 : Nat) : Int) - 1) = ((d + 1 : Nat) : Int) := by unfold wrap64; omega
  rw [if_pos (by omega), if_pos (by omega), if_pos (by omega), e1, if_pos (by omega), if_pos (by omega), if_pos (by omega), e2, q1]
  rfl
theorem controlled_ev {a : Int} {l1 l2 : List Int} (h2 : l1.length - 2 ≤ l2.length) (hs : l1.length ≤ 10000) : Ev (fun k => undo_Controlled.f k a l1 l2) (ctlL a l1 l2) := by
 unfold undo_Controlled.f ctlL
 by_cases c0 : l1.length = 0
 ·rw [if_pos c0]; exact EvSome fun k => if_pos (by omega)
 ·rw [if_neg c0]
  by_cases c1 : l1.length = 1
  ·rw [if_pos c1]
   refine EvSome fun k => ?_
   rw [if_neg (by omega), if_pos (by omega), if_pos (by omega)]
  ·rw [if_neg c1]
   by_cases c2 : l1.length = 2
   ·rw [if_pos c2]
    refine EvSome fun k => ?_
    rw [if_neg (by omega), if_neg (by omega), if_pos (by omega), if_pos (by omega), if_pos (by omega)]
   ·rw [if_neg c2]
    obtain ⟨m, hm⟩ : ∃ m, l1.length = m + 2 := ⟨l1.length - 2, by omega⟩
    have h := ctl_l0 (a := a) (l2 := l2) hm (by omega) (by omega) (by omega) m [] (Nat.le_refl _) rfl
    have q1 : qs a l2 m m = a := by unfold qs; rw [if_neg (by omega)]
    rw [q1] at h
    have e3 : l1.length - 2 = m := by omega
    have e4 : l1.length - 3 = m - 1 := by omega
    rw [e3, e4]
    refine EvC h fun k => ?_
    rw [if_neg (by omega), if_neg (by omega), if_neg (by omega), show wrap64 ((l1.length : Int) - 1) = ((m + 1 : Nat) : Int) by unfold wrap64; omega]
structure CtlAt (n : Nat) (a : Int) (l1 l2 : List Int) : Prop where
 a0 : 0 ≤ a ∧ a < n
 c0 : ∀ i, i < l1.length → 0 ≤ cs l1 i ∧ cs l1 i < n
 cinj : ∀ i j, i < l1.length → j < l1.length → cs l1 i = cs l1 j → i = j
 ca : ∀ i, i < l1.length → cs l1 i ≠ a
 b0 : ∀ j, j < l1.length - 2 → 0 ≤ cs l2 j ∧ cs l2 j < n
 binj : ∀ i j, i < l1.length - 2 → j < l1.length - 2 → cs l2 i = cs l2 j → i = j
 ba : ∀ j, j < l1.length - 2 → cs l2 j ≠ a
 bc : ∀ i j, i < l1.length → j < l1.length - 2 → cs l1 i ≠ cs l2 j
theorem ctl_lies {n : Nat} {a : Int} {l1 l2 : List Int} (h : CtlAt n a l1 l2) {m : Nat} (hm : l1.length = m + 2) : Lies n (qs a l2 m) (cs l1) m := by
 have bnd : ∀ j, qs a l2 m j = (if j < m then cs l2 j else a) := fun j => rfl
 refine ⟨fun j hj => ?_, fun i hi => (h.c0 i (by omega)).1, fun i j hi hj e => ?_, fun i j hi hj e => ?_⟩
 ·rw [bnd]; split
  ·have := h.b0 j (by omega); omega
  ·have := h.a0; omega
 ·rw [bnd, bnd] at e
  split at e <;> split at e
  ·exact h.binj i j (by omega) (by omega) e
  ·exact absurd e (h.ba i (by omega))
  ·exact absurd e.symm (h.ba j (by omega))
  ·omega
 ·rw [bnd] at e
  split at e
  ·exact h.bc i j (by omega) (by omega) e
  ·exact h.ca i (by omega) e
theorem all_cs (x : List Bool) (l1 : List Int) : (l1.all fun v => rdOf false x v) = (List.range l1.length).all fun i => rdOf false x (cs l1 i) := by
 have e : l1 = (List.range l1.length).map (cs l1) := by
  apply List.ext_getElem (by simp)
  intro i h1 h2
  simp [cs, rd, List.getD_eq_getElem?_getD, List.getElem?_eq_getElem h1]
 conv => lhs; rw [e]
 rw [List.all_map]; rfl
theorem ctl_run {n : Nat} {a : Int} {l1 l2 : List Int} (h : CtlAt n a l1 l2) (x : List Bool) (hx : x.length = n) : runL x (ctlL a l1 l2) = flipIf x a (l1.all fun v => rdOf false x v) := by
 rw [all_cs]
 unfold ctlL
 by_cases c0 : l1.length = 0
 ·rw [if_pos c0, c0]
  show x.set _ (!_) = x.set _ _
  simp
 ·rw [if_neg c0]
  by_cases c1 : l1.length = 1
  ·rw [if_pos c1, c1]
   show x.set _ (_ != _) = x.set _ _
   simp [List.range_succ, cs]
  ·rw [if_neg c1]
   by_cases c2 : l1.length = 2
   ·rw [if_pos c2, c2]
    show x.set _ (_ != (_ && _)) = x.set _ _
    simp [List.range_succ, cs]
   ·rw [if_neg c2]
    obtain ⟨m, hm⟩ : ∃ m, l1.length = m + 1 + 2 := ⟨l1.length - 3, by omega⟩
    have L := ctl_lies h hm
    rw [show l1.length - 2 = m + 1 by omega, show l1.length - 3 = m by omega, chain_run L x hx, sv_all, hm, show qs a l2 (m + 1) (m + 1) = a by unfold qs; rw [if_neg (by omega)]]
theorem tof_right {n : Nat} {t a b : Int} (ht : 0 ≤ t ∧ t < n) (ha : 0 ≤ a ∧ a < n) (hb : 0 ≤ b ∧ b < n) (h1 : t ≠ a) (h2 : t ≠ b) (h3 : a ≠ b) : rightB (n : Int) (tof t a b) = true := by
 simp [rightB, tof, inB, ht, ha, hb, h1, h2, h3]
theorem mem_dn {q c : Nat → Int} {o : S67} : ∀ {d : Nat}, o ∈ dn q c d → ∃ j, j < d ∧ o = tof (q (j + 1)) (c (j + 2)) (q j)
 | 0, h => by simp [dn] at h
 | d + 1, h => by
  rcases List.mem_cons.1 h with e | h
  ·exact ⟨d, by omega, e⟩
  ·obtain ⟨j, hj, e⟩ := mem_dn h
   exact ⟨j, by omega, e⟩
theorem gs_right {n : Nat} {q c : Nat → Int} {m : Nat} (L : Lies n q c m) (hc : ∀ i, i ≤ m + 1 → c i < n) (h01 : c 0 ≠ c 1) {d : Nat} (hd : d ≤ m) : ∀ o ∈ gs q c d, rightB (n : Int) o = true := by
 have e1 : ∀ j, j < d → rightB (n : Int) (tof (q (j + 1)) (c (j + 2)) (q j)) = true := fun j hj => by
  have q1 := L.q0 (j + 1) (by omega)
  have q2 := L.q0 j (by omega)
  refine tof_right ⟨q1.1, by omega⟩ ⟨L.c0 _ (by omega), hc _ (by omega)⟩ ⟨q2.1, by omega⟩ (fun e => L.apart _ _ (by omega) (by omega) e.symm) (fun e => by have := L.inj _ _ (by omega) (by omega) e; omega) (L.apart _ _ (by omega) (by omega))
 have e2 : rightB (n : Int) (tof (q 0) (c 0) (c 1)) = true := by
  have q2 := L.q0 0 (by omega)
  exact tof_right ⟨q2.1, by omega⟩ ⟨L.c0 _ (by omega), hc _ (by omega)⟩ ⟨L.c0 _ (by omega), hc _ (by omega)⟩ (fun e => L.apart _ _ (by omega) (by omega) e.symm) (fun e => L.apart _ _ (by omega) (by omega) e.symm) h01
 intro o ho
 unfold gs at ho
 rcases List.mem_append.1 ho with h | h
 ·obtain ⟨j, hj, rfl⟩ := mem_dn h; exact e1 j hj
 ·rcases List.mem_cons.1 h with rfl | h
  ·exact e2
  ·obtain ⟨j, hj, rfl⟩ := mem_dn (List.mem_reverse.1 h); exact e1 j hj
theorem ctl_right {n : Nat} {a : Int} {l1 l2 : List Int} (h : CtlAt n a l1 l2) : ∀ o ∈ ctlL a l1 l2, rightB (n : Int) o = true := by
 unfold ctlL
 by_cases c0 : l1.length = 0
 ·rw [if_pos c0]
  intro o ho
  obtain rfl := List.mem_singleton.1 ho
  have := h.a0
  simp [rightB, inB, this]
 ·rw [if_neg c0]
  by_cases c1 : l1.length = 1
  ·rw [if_pos c1]
   intro o ho
   obtain rfl := List.mem_singleton.1 ho
   have h1 := h.a0
   have h2 : 0 ≤ rd l1 0 ∧ rd l1 0 < n := h.c0 0 (by omega)
   have h3 : rd l1 0 ≠ a := h.ca 0 (by omega)
   simp [rightB, inB, h1, h2, h3.symm]
  ·rw [if_neg c1]
   by_cases c2 : l1.length = 2
   ·rw [if_pos c2]
    intro o ho
    obtain rfl := List.mem_singleton.1 ho
    have h3 : rd l1 0 ≠ rd l1 1 := fun e => by have := h.cinj 0 1 (by omega) (by omega) e; omega
    exact tof_right h.a0 (h.c0 0 (by omega)) (h.c0 1 (by omega)) (fun e => h.ca 0 (by omega) e.symm) (fun e => h.ca 1 (by omega) e.symm) h3
   ·rw [if_neg c2]
    obtain ⟨m, hm⟩ : ∃ m, l1.length = m + 1 + 2 := ⟨l1.length - 3, by omega⟩
    have L := ctl_lies h hm
    have h3 : cs l1 0 ≠ cs l1 1 := fun e => by have := h.cinj 0 1 (by omega) (by omega) e; omega
    rw [show l1.length - 2 = m + 1 by omega, show l1.length - 3 = m by omega]
    intro o ho
    rcases List.mem_append.1 ho with h' | h'
    ·exact gs_right L (fun i hi => (h.c0 i (by omega)).2) h3 (Nat.le_refl _) o h'
    ·exact gs_right L (fun i hi => (h.c0 i (by omega)).2) h3 (by omega) o h'
theorem gs_len (q c : Nat → Int) (d : Nat) : (gs q c d).length = 2 * d + 1 := by
 simp [gs, dn_len]; omega
theorem ctl_len (a : Int) (l1 l2 : List Int) : (ctlL a l1 l2).length ≤ max 1 (4 * l1.length) ∧ (2 ≤ l1.length → (ctlL a l1 l2).length + 7 ≤ 4 * l1.length) := by
 unfold ctlL
 split
 ·simp; omega
 ·split
  ·simp; omega
  ·split
   ·simp; omega
   ·rw [List.length_append, gs_len, gs_len]; omega
end Go.Proofs.YthfhnkpipdbekaaDoor.Pure
