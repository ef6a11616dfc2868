-- CUT by a program of this session: what the claim does not use is left out
import Derived.Test.YtjfhogholmabfaaPax4
namespace Go.Proofs.Ytjfhogholmabfaa.Pure
set_option linter.unusedVariables false
set_option linter.unusedSimpArgs false
open Go.RowKit Go.Proofs.YtjfhogholmabfaaW.PrintWords Go.Proofs.YtjfhogholmabfaaW.PrintLast Go.Proofs.YtjfhogholmabfaaW.PrintMore
open Pa Giv

theorem w64 (i : Nat) (h : i < 100000000) : wrap64 ((i : Int) + 1) = ((i + 1 : Nat) : Int) := by unfold wrap64; omega
theorem rd_at (x : List Int) (i : Nat) (h : i < x.length) : rd x (i : Int) = x[i] := by
  simp [rd, List.getD_eq_getElem?_getD, List.getElem?_eq_getElem h]
theorem Ev1 {α : Type} {g f : Nat → Option α} {r : α} (k : Ev f r) (h : ∀ k, g (k + 1) = f k) : Ev g r := Ev.step h k
theorem EvC {α : Type} {g f : Nat → Option α} {r : α} (k : Ev f r) (h : ∀ k, g k = f k) : Ev g r := Ev.congr h k
theorem EvS {α : Type} {g : Nat → Option α} {r : α} (h : ∀ k, g (k + 1) = some r) : Ev g r := Ev.step h (Ev.now r)

theorem refValid_l1 (x : List Int) (i : Nat) (hi : i < x.length) (hn : x.length < 1000) (r : Bool) (hr : Ev (fun k => commodatumref01_Valid.l0 k x ((i + 1 : Nat) : Int)) r) :
    ∀ d j, j + d = i → Ev (fun k => commodatumref01_Valid.l1 k x i j) (if x[i] ∈ (x.take i).drop j then false else r)
  | 0, j, h => by
    obtain rfl : j = i := by omega
    have e : (x.take j).drop j = [] := by simp
    rw [e]
    refine Ev1 hr fun k => ?_
    simp only [commodatumref01_Valid.l1]
    rw [if_neg (by omega), w64 _ (by omega)]
  | d + 1, j, h => by
    have ej : (x.take i).drop j = x[j] :: (x.take i).drop (j + 1) := by
      rw [List.drop_eq_getElem_cons (by simp; omega)]; simp
    rw [ej]
    by_cases hx : x[j] = x[i]
    · rw [if_pos (by simp [hx])]
      refine EvS fun k => ?_
      simp only [commodatumref01_Valid.l1]
      rw [if_pos (by omega), if_pos (by omega), if_pos (by omega), if_pos (by omega), if_pos (by omega), rd_at _ _ (by omega), rd_at _ _ (by omega), if_pos hx]
    · have ih := refValid_l1 x i hi hn r hr d (j + 1) (by omega)
      have e2 : (x[i] ∈ x[j] :: (x.take i).drop (j + 1)) = (x[i] ∈ (x.take i).drop (j + 1)) := by
        rw [eq_iff_iff, List.mem_cons]; exact ⟨fun h => h.elim (fun h => absurd h.symm hx) id, .inr⟩
      simp only [e2]
      refine Ev1 ih fun k => ?_
      simp only [commodatumref01_Valid.l1]
      rw [if_pos (by omega), if_pos (by omega), if_pos (by omega), if_pos (by omega), if_pos (by omega), rd_at _ _ (by omega), rd_at _ _ (by omega), if_neg hx, w64 _ (by omega)]

open Classical in
noncomputable def okFrom (x : List Int) (i : Nat) : Bool := decide (∀ j, i ≤ j → ∀ h : j < x.length, (0 ≤ x[j] ∧ x[j] < (x.length : Int)) ∧ x[j] ∉ x.take j)
theorem okFrom_end (x : List Int) : okFrom x x.length = true := by
  unfold okFrom
  exact @decide_eq_true _ (Classical.propDecidable _) (fun j h1 h2 => by omega)
theorem okFrom_bad (x : List Int) (i : Nat) (h : i < x.length) (hb : ¬ ((0 ≤ x[i] ∧ x[i] < (x.length : Int)) ∧ x[i] ∉ x.take i)) : okFrom x i = false := by
  unfold okFrom
  exact @decide_eq_false _ (Classical.propDecidable _) (fun hf => hb (hf i (Nat.le_refl _) h))
theorem okFrom_step (x : List Int) (i : Nat) (h : i < x.length) (hb : ((0 ≤ x[i] ∧ x[i] < (x.length : Int)) ∧ x[i] ∉ x.take i)) : okFrom x i = okFrom x (i + 1) := by
  unfold okFrom
  rw [decide_eq_decide]
  exact ⟨fun hf j hj h2 => hf j (by omega) h2, fun hf j hj h2 => by
    by_cases e : j = i
    · subst e; exact hb
    · exact hf j (by omega) h2⟩
theorem refValid_l0 (x : List Int) (hn : x.length < 1000) : ∀ d i, i + d = x.length → Ev (fun k => commodatumref01_Valid.l0 k x i) (okFrom x i)
  | 0, i, h => by
    obtain rfl : i = x.length := by omega
    rw [okFrom_end]
    refine EvS fun k => ?_
    simp only [commodatumref01_Valid.l0]
    rw [if_neg (by omega)]
  | d + 1, i, h => by
    have hi : i < x.length := by omega
    by_cases h0 : x[i] < 0
    · rw [okFrom_bad x i hi (by omega)]
      refine Ev1 (f := fun k => commodatumref01_Valid.j2 k x i true) (EvS fun k => rfl) fun k => ?_
      simp only [commodatumref01_Valid.l0]
      rw [if_pos (by omega), if_pos (by omega), rd_at _ _ hi, if_pos h0]
    · by_cases h1 : (x.length : Int) ≤ x[i]
      · rw [okFrom_bad x i hi (by omega)]
        refine Ev1 (f := fun k => commodatumref01_Valid.j2 k x i true) (EvS fun k => rfl) fun k => ?_
        simp only [commodatumref01_Valid.l0]
        rw [if_pos (by omega), if_pos (by omega), rd_at _ _ hi, if_neg h0, decide_eq_true h1]
      · have ih := refValid_l0 x hn d (i + 1) (by omega)
        have hl := refValid_l1 x i hi hn _ ih i 0 (by omega)
        have e : okFrom x i = (if x[i] ∈ (x.take i).drop 0 then false else okFrom x (i + 1)) := by
          rw [List.drop_zero]
          by_cases hm : x[i] ∈ x.take i
          · rw [if_pos hm]; exact okFrom_bad x i hi (by simp [hm])
          · rw [if_neg hm]; exact okFrom_step x i hi ⟨⟨by omega, by omega⟩, hm⟩
        rw [e]
        refine Ev1 (f := fun k => commodatumref01_Valid.j2 k x i false) (Ev1 hl fun k => rfl) fun k => ?_
        simp only [commodatumref01_Valid.l0]
        rw [if_pos (by omega), if_pos (by omega), rd_at _ _ hi, if_neg h0, decide_eq_false (by omega)]
theorem okFrom_valid (x : List Int) (h1 : 1 ≤ x.length) (h7 : x.length ≤ 7) : okFrom x 0 = validB x := by
  unfold okFrom validB
  rw [decide_eq_decide]
  constructor
  · intro h
    refine ⟨h1, h7, fun y hy => ?_, ?_⟩
    · obtain ⟨j, hj, rfl⟩ := List.getElem_of_mem hy
      exact (h j (by omega) hj).1
    · refine List.pairwise_iff_getElem.2 fun i j hi hj hij he => ?_
      refine (h j (by omega) hj).2 (List.mem_iff_getElem.2 ⟨i, by simp; omega, by simp [he]⟩)
  · rintro ⟨_, _, h3, h4⟩ j _ hj
    refine ⟨h3 _ (List.getElem_mem hj), fun hm => ?_⟩
    obtain ⟨i, hi, he⟩ := List.mem_iff_getElem.1 hm
    have hij : i < j ∧ i < x.length := by simp at hi; omega
    rw [List.getElem_take] at he
    exact List.pairwise_iff_getElem.1 h4 i j (by omega) hj hij.1 he
theorem refValid (x : List Int) : Ev (fun k => commodatumref01_Valid.f k x) (validB x) := by
  by_cases h1 : x.length < 1
  · rw [show validB x = false from decide_eq_false (by omega)]
    refine EvC (f := fun k => commodatumref01_Valid.j0 k x true) (EvS fun k => rfl) fun k => ?_
    simp only [commodatumref01_Valid.f]
    rw [if_pos (by omega)]
  · by_cases h7 : 7 < x.length
    · rw [show validB x = false from decide_eq_false (by omega)]
      refine EvC (f := fun k => commodatumref01_Valid.j0 k x true) (EvS fun k => rfl) fun k => ?_
      simp only [commodatumref01_Valid.f]
      rw [if_neg (by omega), decide_eq_true (by omega)]
    · rw [← okFrom_valid x (by omega) (by omega)]
      refine EvC (f := fun k => commodatumref01_Valid.j0 k x false) (Ev1 (refValid_l0 x (by omega) x.length 0 (by omega)) fun k => rfl) fun k => ?_
      simp only [commodatumref01_Valid.f]
      rw [if_neg (by omega), decide_eq_false (by omega)]

theorem take_set_rep (L : List Int) (i d : Nat) (h : i + (d + 1) = L.length) : (L.take i ++ List.replicate (d + 1) 0).set i (L[i]'(by omega)) = L.take (i + 1) ++ List.replicate d 0 := by
  rw [List.set_append_right _ _ (by simp; omega), List.length_take, show i - min i L.length = 0 by omega, List.replicate_succ, List.set_cons_zero, List.take_add_one, List.getElem?_eq_getElem (by omega), Option.toList_some, List.append_assoc]
  rfl
theorem perm_mul_l0 (p q : List Int) (hp : Into p q.length) (hn : p.length < 1000) : ∀ d i, i + d = p.length → Ev (fun k => perm_mul.l0 k q ((mulL p q).take i ++ List.replicate d 0) p p.length i) (mulL p q)
  | 0, i, h => by
    have e : (mulL p q).take i ++ List.replicate 0 0 = mulL p q := by
      rw [List.take_of_length_le (by rw [mulL_len]; omega)]; simp
    rw [e]
    refine EvS fun k => ?_
    simp only [perm_mul.l0]
    rw [if_neg (by omega)]
  | d + 1, i, h => by
    have ih := perm_mul_l0 p q hp hn d (i + 1) (by omega)
    have hi : i < p.length := by omega
    have hx := hp p[i] (List.getElem_mem hi)
    have e := take_set_rep (mulL p q) i d (by rw [mulL_len]; omega)
    rw [← e] at ih
    refine Ev1 ih fun k => ?_
    simp only [perm_mul.l0]
    rw [if_pos (by omega), if_pos (by omega), if_pos (by omega), rd_at _ _ hi, if_pos hx.1, if_pos hx.2, if_pos (by simp [mulL_len]; omega), w64 _ (by omega)]
    simp [mulL, rd]
theorem perm_mul (p q : List Int) (hp : Into p q.length) (hn : p.length < 1000) : Ev (fun k => perm_mul.f k p q) (mulL p q) := by
  have h := perm_mul_l0 p q hp hn p.length 0 (by omega)
  refine EvC h fun k => ?_
  simp only [perm_mul.f]
  rw [if_pos (by omega), if_pos (by omega)]
  simp
theorem perm_inverse_l0 (p : List Int) (hp : Into p p.length) (hn : p.length < 1000) : ∀ d i (acc : List Int), i + d = p.length → acc.length = p.length → Ev (fun k => perm_inverse.l0 k acc p p.length i) (setL (p.drop i) i acc)
  | 0, i, acc, h, ha => by
    rw [List.drop_of_length_le (by omega)]
    refine EvS fun k => ?_
    simp only [perm_inverse.l0]
    rw [if_neg (by omega)]
    rfl
  | d + 1, i, acc, h, ha => by
    have hi : i < p.length := by omega
    have hx := hp p[i] (List.getElem_mem hi)
    have ih := perm_inverse_l0 p hp hn d (i + 1) (acc.set p[i].toNat i) (by omega) (by simp [ha])
    rw [List.drop_eq_getElem_cons hi, setL]
    refine Ev1 ih fun k => ?_
    simp only [perm_inverse.l0]
    rw [if_pos (by omega), if_pos (by omega), if_pos (by omega), rd_at _ _ hi, if_pos hx.1, if_pos (by rw [ha]; exact hx.2), w64 _ (by omega)]
theorem perm_inverse (p : List Int) (hp : Into p p.length) (hn : p.length < 1000) : Ev (fun k => perm_inverse.f k p) (invL p) := by
  have h := perm_inverse_l0 p hp hn p.length 0 (List.replicate p.length 0) (by omega) (by simp)
  refine EvC h fun k => ?_
  simp only [perm_inverse.f]
  rw [if_pos (by omega), if_pos (by omega)]
  simp
theorem same_l0 (x y : List Int) (hl : x.length = y.length) (hn : x.length < 100000000) : ∀ d i, i + d = x.length → Ev (fun k => commodatumref01_Same.l0 k x y i) (decide (x.drop i = y.drop i))
  | 0, i, h => by
    rw [decide_eq_true (by rw [List.drop_of_length_le (by omega), List.drop_of_length_le (by omega)])]
    refine EvS fun k => ?_
    simp only [commodatumref01_Same.l0]
    rw [if_neg (by omega)]
  | d + 1, i, h => by
    have h1 : i < x.length := by omega
    have h2 : i < y.length := by omega
    have e : (x.drop i = y.drop i) = (x[i] = y[i] ∧ x.drop (i + 1) = y.drop (i + 1)) := by
      rw [List.drop_eq_getElem_cons h1, List.drop_eq_getElem_cons h2, List.cons.injEq]
    by_cases he : x[i] = y[i]
    · have ih := same_l0 x y hl hn d (i + 1) (by omega)
      rw [decide_eq_decide.2 (show (x.drop i = y.drop i) ↔ x.drop (i + 1) = y.drop (i + 1) by rw [e]; simp [he])]
      refine Ev1 ih fun k => ?_
      simp only [commodatumref01_Same.l0]
      rw [if_pos (by omega), if_pos (by omega), if_pos (by omega), rd_at _ _ h1, rd_at _ _ h2, if_pos he, w64 _ (by omega)]
    · rw [decide_eq_false (by rw [e]; simp [he])]
      refine EvS fun k => ?_
      simp only [commodatumref01_Same.l0]
      rw [if_pos (by omega), if_pos (by omega), if_pos (by omega), rd_at _ _ h1, rd_at _ _ h2, if_neg he]
theorem same (x y : List Int) (hn : x.length < 100000000) : Ev (fun k => commodatumref01_Same.f k x y) (decide (x = y)) := by
  by_cases hl : x.length = y.length
  · have h := same_l0 x y hl hn x.length 0 (by omega)
    refine EvC h fun k => ?_
    simp only [commodatumref01_Same.f]
    rw [if_pos (by omega)]; rfl
  · rw [decide_eq_false (by rintro rfl; exact hl rfl)]
    refine EvC (Ev.now false) fun k => ?_
    simp only [commodatumref01_Same.f]
    rw [if_neg (by omega)]
def alikeL (p q : List Int) : Int := if validB p = true ∧ validB q = true then (if p.length = q.length then 0 else 2) else 1
theorem both_j0 (p q : List Int) (b : Bool) : Ev (fun k => perm_both.j0 k p q b) (if b = true then 1 else (if p.length = q.length then 0 else 2)) := by
  refine EvS fun k => ?_
  simp only [perm_both.j0]
  by_cases hb : b = true
  · rw [if_pos hb, if_pos hb]
  · rw [if_neg hb, if_neg hb]
    by_cases hl : p.length = q.length
    · rw [if_pos hl, if_pos (by omega)]
    · rw [if_neg hl, if_neg (by omega)]
theorem both (p q : List Int) : Ev (fun k => perm_both.f k p q) (alikeL p q) := by
  unfold alikeL
  simp only [perm_both.f, perm_Valid.f, Option.bind_some]
  by_cases hp : validB p = true
  · simp only [hp, if_true, true_and]
    have h := both_j0 p q (!validB q)
    by_cases hq : validB q = true
    · simp only [hq, Bool.not_true, if_true] at h ⊢
      simpa using h
    · simp only [Bool.not_eq_true] at hq
      simp only [hq, Bool.not_false, if_true] at h ⊢
      simpa using h
  · simp only [hp, if_false, false_and]
    have h := both_j0 p q true
    simpa using h
theorem alike_j0 (p q : List Int) (b : Bool) : Ev (fun k => commodatumref01_Alike.j0 k p q b) (if b = true then 1 else (if p.length = q.length then 0 else 2)) := by
  refine EvS fun k => ?_
  simp only [commodatumref01_Alike.j0]
  by_cases hb : b = true
  · rw [if_pos hb, if_pos hb]
  · rw [if_neg hb, if_neg hb]
    by_cases hl : p.length = q.length
    · rw [if_pos hl, if_pos (by omega)]
    · rw [if_neg hl, if_neg (by omega)]
theorem alike (p q : List Int) : Ev (fun k => commodatumref01_Alike.f k p q) (alikeL p q) := by
  unfold alikeL
  simp only [commodatumref01_Alike.f]
  refine Ev.bind (refValid p) ?_
  by_cases hp : validB p = true
  · simp only [hp, if_true, true_and]
    refine Ev.bind (refValid q) ?_
    have h := alike_j0 p q (!validB q)
    by_cases hq : validB q = true
    · simp only [hq, Bool.not_true, if_true] at h ⊢
      simpa using h
    · simp only [Bool.not_eq_true] at hq
      simp only [hq, Bool.not_false, if_true] at h ⊢
      simpa using h
  · simp only [hp, if_false, false_and]
    have h := alike_j0 p q true
    simpa using h
def commL (p q : List Int) : List Int := mulL (mulL (invL p) (invL q)) (mulL p q)
theorem perm_Mul (p q : List Int) : Ev (fun k => perm_Mul.f k p q) (if alikeL p q = 0 then (mulL p q, 0) else ([], alikeL p q)) := by
  simp only [perm_Mul.f]
  refine Ev.bind (both p q) ?_
  by_cases h : alikeL p q = 0
  · simp only [h, if_true]
    unfold alikeL at h
    split at h
    · rename_i hv
      obtain ⟨a, b, c, d⟩ := valid_into hv.1
      split at h
      · rename_i hl
        exact Ev.bind (perm_mul p q (hl ▸ a) (by omega)) (Ev.now _)
      · omega
    · omega
  · simp only [h, if_false]
    exact Ev.now _
theorem perm_Commutator (p q : List Int) : Ev (fun k => perm_Commutator.f k p q) (if alikeL p q = 0 then (commL p q, 0) else ([], alikeL p q)) := by
  simp only [perm_Commutator.f]
  refine Ev.bind (both p q) ?_
  by_cases h : alikeL p q = 0
  · simp only [h, if_true]
    unfold alikeL at h
    split at h
    · rename_i hv
      obtain ⟨a, b, c, d⟩ := valid_into hv.1
      obtain ⟨a', b', c', d'⟩ := valid_into hv.2
      split at h
      · rename_i hl
        refine Ev.bind (perm_inverse p a (by omega)) (Ev.bind (perm_inverse q a' (by omega)) ?_)
        refine Ev.bind (perm_mul (invL p) (invL q) (by rw [invL_len, ← hl]; exact into_inv b) (by rw [invL_len]; omega)) (Ev.bind (perm_mul p q (hl ▸ a) (by omega)) ?_)
        refine Ev.bind (perm_mul (mulL (invL p) (invL q)) (mulL p q) ?_ (by rw [mulL_len, invL_len]; omega)) (Ev.now _)
        rw [mulL_len]
        exact into_mul (by rw [hl]; exact into_inv b') (by omega)
      · omega
    · omega
  · simp only [h, if_false]
    exact Ev.now _
theorem alive : Ev (fun k => commodatumlaw01_alive.f k) true := Ev.of (k := 40) commodatumlaw01_alive.mono (by decide +kernel)
def shortB : List (List Int) → Bool
  | [] => true
  | x :: r => decide (x.length ≤ 100) && shortB r
theorem rd_L1_at (x : List (List Int)) (i : Nat) (h : i < x.length) : rd_L1 x (i : Int) = x[i] := by
  simp [rd_L1, List.getD_eq_getElem?_getD, List.getElem?_eq_getElem h]
theorem short_l0 (x : List (List Int)) (hn : x.length < 1000) : ∀ d i, i + d = x.length → Ev (fun k => commodatumlaw01_short.l0 k x i) (shortB (x.drop i))
  | 0, i, h => by
    rw [List.drop_of_length_le (by omega)]
    refine EvS fun k => ?_
    simp only [commodatumlaw01_short.l0]
    rw [if_neg (by omega)]; rfl
  | d + 1, i, h => by
    have h1 : i < x.length := by omega
    rw [List.drop_eq_getElem_cons h1, shortB]
    by_cases hc : x[i].length ≤ 100
    · rw [decide_eq_true hc, Bool.true_and]
      have ih := short_l0 x hn d (i + 1) (by omega)
      refine Ev1 ih fun k => ?_
      simp only [commodatumlaw01_short.l0]
      rw [if_pos (by omega), if_pos (by omega), rd_L1_at _ _ h1, if_neg (by omega), w64 _ (by omega)]
    · rw [decide_eq_false hc, Bool.false_and]
      refine EvS fun k => ?_
      simp only [commodatumlaw01_short.l0]
      rw [if_pos (by omega), if_pos (by omega), rd_L1_at _ _ h1, if_pos (by omega)]
theorem short (x : List (List Int)) (hn : x.length < 1000) : Ev (fun k => commodatumlaw01_short.f k x) (shortB x) := by
  have h := short_l0 x hn x.length 0 (by omega)
  exact EvC h fun k => rfl

end Go.Proofs.Ytjfhogholmabfaa.Pure
