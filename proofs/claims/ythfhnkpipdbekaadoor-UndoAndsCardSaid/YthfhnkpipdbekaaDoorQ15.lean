-- CUT by a program of this session: what the claim does not use is left out
import Derived.Test.YthfhnkpipdbekaaDoorQ2
namespace Go.Proofs.YthfhnkpipdbekaaDoor.Giv
set_option linter.unusedVariables false
set_option linter.unusedSimpArgs false
open Go.RowKit Go.Shelf Go.Proofs.YthfhnkpipdbekaaDoorW.PrintWords Go.Proofs.YthfhnkpipdbekaaDoorW.PrintLast Go.Proofs.YthfhnkpipdbekaaDoorW.PrintMore
open Go.Proofs.YthfhnkpipdbekaaDoor.Ua (S67 k67 z67 rd_T67 at_T67)
def flipIf (x : List Bool) (a : Int) (v : Bool) : List Bool := x.set a.toNat (rdOf false x a != v)
def tof (t a b : Int) : S67 := ⟨2, t, a, b⟩
theorem flip_len (x : List Bool) (a : Int) (v : Bool) : (flipIf x a v).length = x.length := by simp [flipIf]
theorem rd_flip {x : List Bool} {a i : Int} {v : Bool} (ha : 0 ≤ a ∧ a.toNat < x.length) (hi : 0 ≤ i) : rdOf false (flipIf x a v) i = if i = a then (rdOf false x a != v) else rdOf false x i := by
 unfold flipIf
 by_cases e : i = a
 ·subst e; rw [if_pos rfl, rd_set_same ha.2]
 ·rw [if_neg e, rd_set_other ha.1 hi (fun h => e h.symm)]
theorem tof_run (x : List Bool) (t a b : Int) : runOp x (tof t a b) = flipIf x t (rdOf false x a && rdOf false x b) := rfl
theorem row_ext {x y : List Bool} (hl : x.length = y.length) (h : ∀ i : Nat, i < x.length → rdOf false x (i : Int) = rdOf false y (i : Int)) : x = y := by
 apply List.ext_getElem hl
 intro i h1 h2
 have := h i h1
 simpa [rdOf, List.getD_eq_getElem?_getD, List.getElem?_eq_getElem h1, List.getElem?_eq_getElem h2] using this
def dn (q c : Nat → Int) : Nat → List S67
 | 0 => []
 | d + 1 => tof (q (d + 1)) (c (d + 2)) (q d) :: dn q c d
def gs (q c : Nat → Int) (d : Nat) : List S67 := dn q c d ++ tof (q 0) (c 0) (c 1) :: (dn q c d).reverse
theorem dn_len (q c : Nat → Int) : ∀ d, (dn q c d).length = d
 | 0 => rfl
 | d + 1 => by simp [dn, dn_len q c d]
theorem gs_succ (q c : Nat → Int) (d : Nat) : gs q c (d + 1) = tof (q (d + 1)) (c (d + 2)) (q d) :: (gs q c d ++ [tof (q (d + 1)) (c (d + 2)) (q d)]) := by
 simp [gs, dn]
def sv (x : List Bool) (c : Nat → Int) : Nat → Bool
 | 0 => rdOf false x (c 0) && rdOf false x (c 1)
 | d + 1 => rdOf false x (c (d + 2)) && sv x c d
theorem sv_all (x : List Bool) (c : Nat → Int) : ∀ d, sv x c d = (List.range (d + 2)).all fun i => rdOf false x (c i)
 | 0 => by simp [sv, List.range_succ]
 | d + 1 => by
  rw [List.range_succ, List.all_append, sv, sv_all x c d]
  simp [Bool.and_comm]
theorem sv_same {x y : List Bool} {c : Nat → Int} : ∀ {d : Nat}, (∀ i, i ≤ d + 1 → rdOf false x (c i) = rdOf false y (c i)) → sv x c d = sv y c d
 | 0, h => by simp [sv, h 0, h 1]
 | d + 1, h => by rw [sv, sv, h (d + 2) (by omega), sv_same (fun i hi => h i (by omega))]
structure Lies (n : Nat) (q c : Nat → Int) (m : Nat) : Prop where
 q0 : ∀ j, j ≤ m → 0 ≤ q j ∧ (q j).toNat < n
 c0 : ∀ i, i ≤ m + 1 → 0 ≤ c i
 inj : ∀ i j, i ≤ m → j ≤ m → q i = q j → i = j
 apart : ∀ i j, i ≤ m + 1 → j ≤ m → c i ≠ q j
theorem gs_run {n : Nat} {q c : Nat → Int} {m : Nat} (L : Lies n q c m) : ∀ (d : Nat), d ≤ m → ∀ (x : List Bool), x.length = n →
  (∀ j, j ≤ d → rdOf false (runL x (gs q c d)) (q j) = (rdOf false x (q j) != sv x c j)) ∧ ∀ i : Int, 0 ≤ i → (∀ j, j ≤ d → i ≠ q j) → rdOf false (runL x (gs q c d)) i = rdOf false x i
 | 0, hd, x, hx => by
  have e : runL x (gs q c 0) = flipIf x (q 0) (rdOf false x (c 0) && rdOf false x (c 1)) := rfl
  have hq := L.q0 0 (by omega)
  rw [← hx] at hq
  rw [e]
  refine ⟨fun j hj => ?_, fun i hi hn => ?_⟩
  ·obtain rfl : j = 0 := by omega
   rw [rd_flip hq hq.1, if_pos rfl]; rfl
  ·rw [rd_flip hq hi, if_neg (hn 0 (by omega))]
 | d + 1, hd, x, hx => by
  have e : runL x (gs q c (d + 1)) = runOp (runL (runOp x (tof (q (d + 1)) (c (d + 2)) (q d))) (gs q c d)) (tof (q (d + 1)) (c (d + 2)) (q d)) := by
   rw [gs_succ]
   show runL (runOp x _) (gs q c d ++ [_]) = _
   rw [runL_app]; rfl
  have hq := L.q0 (d + 1) hd
  have hq' := hq
  rw [← hx] at hq
  obtain ⟨x1, hx1⟩ : ∃ x1, x1 = runOp x (tof (q (d + 1)) (c (d + 2)) (q d)) := ⟨_, rfl⟩
  have l1 : x1.length = n := by rw [hx1, runOp_len, hx]
  obtain ⟨i1, i2⟩ := gs_run L d (by omega) x1 l1
  obtain ⟨x2, hx2⟩ : ∃ x2, x2 = runL x1 (gs q c d) := ⟨_, rfl⟩
  have l2 : x2.length = n := by rw [hx2, runL_len, l1]
  rw [← hx2] at i1 i2
  have r1 : ∀ i : Int, 0 ≤ i → rdOf false x1 i = if i = q (d + 1) then (rdOf false x (q (d + 1)) != (rdOf false x (c (d + 2)) && rdOf false x (q d))) else rdOf false x i := fun i hi => by
   rw [hx1, tof_run, rd_flip hq hi]
  have hq2 : 0 ≤ q (d + 1) ∧ (q (d + 1)).toNat < x2.length := by rw [l2]; exact hq'
  have r3 : ∀ i : Int, 0 ≤ i → rdOf false (runL x (gs q c (d + 1))) i = if i = q (d + 1) then (rdOf false x2 (q (d + 1)) != (rdOf false x2 (c (d + 2)) && rdOf false x2 (q d))) else rdOf false x2 i := fun i hi => by
   rw [e, ← hx1, ← hx2, tof_run, rd_flip hq2 hi]
  have ctl : ∀ i, i ≤ m + 1 → rdOf false x1 (c i) = rdOf false x (c i) := fun i hi => by
   rw [r1 _ (L.c0 i hi), if_neg (L.apart i (d + 1) hi hd)]
  have ctl2 : ∀ i, i ≤ m + 1 → rdOf false x2 (c i) = rdOf false x (c i) := fun i hi => by
   rw [i2 _ (L.c0 i hi) (fun j hj => L.apart i j hi (by omega)), ctl i hi]
  have svs : ∀ j, j ≤ d → sv x1 c j = sv x c j := fun j hj => sv_same fun i hi => ctl i (by omega)
  have qd : rdOf false x1 (q d) = rdOf false x (q d) := by
   rw [r1 _ (L.q0 d (by omega)).1, if_neg (fun h => by have := L.inj _ _ (by omega) hd h; omega)]
  refine ⟨fun j hj => ?_, fun i hi hn => ?_⟩
  ·by_cases ej : j = d + 1
   ·subst ej
    rw [r3 _ hq.1, if_pos rfl, i2 _ hq.1 (fun j hj h => by have := L.inj _ _ hd (by omega) h; omega), r1 _ hq.1, if_pos rfl, ctl2 (d + 2) (by omega), i1 d (Nat.le_refl _), qd, svs d (Nat.le_refl _), sv]
    generalize rdOf false x (q (d + 1)) = A
    generalize rdOf false x (c (d + 2)) = B
    generalize rdOf false x (q d) = C
    generalize sv x c d = D
    cases A <;> cases B <;> cases C <;> cases D <;> rfl
   ·have hj' : j ≤ d := by omega
    rw [r3 _ (L.q0 j (by omega)).1, if_neg (fun h => by have := L.inj _ _ (by omega) hd h; omega), i1 j hj', svs j hj', r1 _ (L.q0 j (by omega)).1, if_neg (fun h => by have := L.inj _ _ (by omega) hd h; omega)]
  ·rw [r3 i hi, if_neg (hn (d + 1) (Nat.le_refl _)), i2 i hi (fun j hj => hn j (by omega)), r1 i hi, if_neg (hn (d + 1) (Nat.le_refl _))]
theorem chain_run {n : Nat} {q c : Nat → Int} {d : Nat} (L : Lies n q c (d + 1)) (x : List Bool) (hx : x.length = n) : runL x (gs q c (d + 1) ++ gs q c d) = flipIf x (q (d + 1)) (sv x c (d + 1)) := by
 obtain ⟨a1, a2⟩ := gs_run L (d + 1) (Nat.le_refl _) x hx
 obtain ⟨y, hy⟩ : ∃ y, y = runL x (gs q c (d + 1)) := ⟨_, rfl⟩
 have ly : y.length = n := by rw [hy, runL_len, hx]
 rw [← hy] at a1 a2
 obtain ⟨b1, b2⟩ := gs_run L d (by omega) y ly
 have hq := L.q0 (d + 1) (Nat.le_refl _)
 have hq' := hq
 rw [← hx] at hq'
 rw [runL_app, ← hy]
 refine row_ext (by rw [runL_len, flip_len, ly, hx]) fun i hi => ?_
 have hi0 : (0 : Int) ≤ (i : Int) := by omega
 rw [rd_flip hq' hi0]
 by_cases e : (i : Int) = q (d + 1)
 ·rw [if_pos e, b2 _ hi0 (fun j hj h => by have := L.inj (d + 1) j (by omega) (by omega) (e.symm.trans h); omega), e, a1 (d + 1) (Nat.le_refl _)]
 ·rw [if_neg e]
  by_cases ej : ∃ j, j ≤ d ∧ (i : Int) = q j
  ·obtain ⟨j, hj, e2⟩ := ej
   rw [e2, b1 j hj, a1 j (by omega)]
   have : sv y c j = sv x c j := sv_same fun t ht => a2 _ (L.c0 t (by omega)) fun j' hj' => L.apart t j' (by omega) hj'
   rw [this]
   generalize rdOf false x (q j) = A
   generalize sv x c j = B
   cases A <;> cases B <;> rfl
  ·rw [b2 _ hi0 (fun j hj h => ej ⟨j, hj, h⟩), a2 _ hi0 (fun j hj h => by
    by_cases ejd : j = d + 1
    ·subst ejd; exact e h
    ·exact ej ⟨j, by omega, h⟩)]
end Go.Proofs.YthfhnkpipdbekaaDoor.Giv
