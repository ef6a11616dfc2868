-- CUT by a program of this session: what the claim does not use is left out
import Derived.Test.YtjfhogholmabfaaDoorPax8
import Derived.Test.YtjfhogholmabfaaDoorPax7
import Derived.Test.YtjfhogholmabfaaDoorPax4
namespace Go.Proofs.YtjfhogholmabfaaDoor.Pure
set_option linter.unusedVariables false
set_option linter.unusedSimpArgs false
open Go.RowKit Go.Proofs.YtjfhogholmabfaaDoorW.PrintWords Go.Proofs.YtjfhogholmabfaaDoorW.PrintLast Go.Proofs.YtjfhogholmabfaaDoorW.PrintMore
open Pa Giv

theorem w64 (i : Nat) (h : i < 100000000) : wrap64 ((i : Int) + 1) = ((i + 1 : Nat) : Int) := by unfold wrap64; omega
theorem rd_at (x : List Int) (i : Nat) (h : i < x.length) : rd x (i : Int) = x[i] := by
  simp [rd, List.getD_eq_getElem?_getD, List.getElem?_eq_getElem h]
theorem Ev1 {α : Type} {g f : Nat → Option α} {r : α} (k : Ev f r) (h : ∀ k, g (k + 1) = f k) : Ev g r := Ev.step h k
theorem EvC {α : Type} {g f : Nat → Option α} {r : α} (k : Ev f r) (h : ∀ k, g k = f k) : Ev g r := Ev.congr h k
theorem EvS {α : Type} {g : Nat → Option α} {r : α} (h : ∀ k, g (k + 1) = some r) : Ev g r := Ev.step h (Ev.now r)
theorem refValid_l1 (x : List Int) (i : Nat) (hi : i < x.length) (hn : x.length < 1000) (r : Bool) (hr : Ev (fun k => commodatumref01_Valid.l0 k x ((i + 1 : Nat) : Int)) r) :
    ∀ d j, j + d = i → Ev (fun k => commodatumref01_Valid.l1 k x i j) (if x[i] ∈ (x.take i).drop j then false else r)
  | 0, j, h => by
    obtain rfl : j = i := by omega
    have e : (x.take j).drop j = [] := by simp
    rw [e]
    refine Ev1 hr fun k => ?_
    simp only [commodatumref01_Valid.l1]
    rw [if_neg (by omega), w64 _ (by omega)]
  | d + 1, j, h => by
    have ej : (x.take i).drop j = x[j] :: (x.take i).drop (j + 1) := by
      rw [List.drop_eq_getElem_cons (by simp; omega)]; simp
    rw [ej]
    by_cases hx : x[j] = x[i]
    · rw [if_pos (by simp [hx])]
      refine EvS fun k => ?_
      simp only [commodatumref01_Valid.l1]
      rw [if_pos (by omega), if_pos (by omega), if_pos (by omega), if_pos (by omega), if_pos (by omega), rd_at _ _ (by omega), rd_at _ _ (by omega), if_pos hx]
    · have ih := refValid_l1 x i hi hn r hr d (j + 1) (by omega)
      have e2 : (x[i] ∈ x[j] :: (x.take i).drop (j + 1)) = (x[i] ∈ (x.take i).drop (j + 1)) := by
        rw [eq_iff_iff, List.mem_cons]; exact ⟨fun h => h.elim (fun h => absurd h.symm hx) id, .inr⟩
      simp only [e2]
      refine Ev1 ih fun k => ?_
      simp only [commodatumref01_Valid.l1]
      rw [if_pos (by omega), if_pos (by omega), if_pos (by omega), if_pos (by omega), if_pos (by omega), rd_at _ _ (by omega), rd_at _ _ (by omega), if_neg hx, w64 _ (by omega)]
open Classical in
noncomputable def okFrom (x : List Int) (i : Nat) : Bool := decide (∀ j, i ≤ j → ∀ h : j < x.length, (0 ≤ x[j] ∧ x[j] < (x.length : Int)) ∧ x[j] ∉ x.take j)
theorem okFrom_end (x : List Int) : okFrom x x.length = true := by
  unfold okFrom
  exact @decide_eq_true _ (Classical.propDecidable _) (fun j h1 h2 => by omega)
theorem okFrom_bad (x : List Int) (i : Nat) (h : i < x.length) (hb : ¬ ((0 ≤ x[i] ∧ x[i] < (x.length : Int)) ∧ x[i] ∉ x.take i)) : okFrom x i = false := by
  unfold okFrom
  exact @decide_eq_false _ (Classical.propDecidable _) (fun hf => hb (hf i (Nat.le_refl _) h))
theorem okFrom_step (x : List Int) (i : Nat) (h : i < x.length) (hb : ((0 ≤ x[i] ∧ x[i] < (x.length : Int)) ∧ x[i] ∉ x.take i)) : okFrom x i = okFrom x (i + 1) := by
  unfold okFrom
  rw [decide_eq_decide]
  exact ⟨fun hf j hj h2 => hf j (by omega) h2, fun hf j hj h2 => by
    by_cases e : j = i
    · subst e; exact hb
    · exact hf j (by omega) h2⟩
theorem refValid_l0 (x : List Int) (hn : x.length < 1000) : ∀ d i, i + d = x.length → Ev (fun k => commodatumref01_Valid.l0 k x i) (okFrom x i)
  | 0, i, h => by
    obtain rfl : i = x.length := by omega
    rw [okFrom_end]
    refine EvS fun k => ?_
    simp only [commodatumref01_Valid.l0]
    rw [if_neg (by omega)]
  | d + 1, i, h => by
    have hi : i < x.length := by omega
    by_cases h0 : x[i] < 0
    · rw [okFrom_bad x i hi (by omega)]
      refine Ev1 (f := fun k => commodatumref01_Valid.j2 k x i true) (EvS fun k => rfl) fun k => ?_
      simp only [commodatumref01_Valid.l0]
      rw [if_pos (by omega), if_pos (by omega), rd_at _ _ hi, if_pos h0]
    · by_cases h1 : (x.length : Int) ≤ x[i]
      · rw [okFrom_bad x i hi (by omega)]
        refine Ev1 (f := fun k => commodatumref01_Valid.j2 k x i true) (EvS fun k => rfl) fun k => ?_
        simp only [commodatumref01_Valid.l0]
        rw [if_pos (by omega), if_pos (by omega), rd_at _ _ hi, if_neg h0, decide_eq_true h1]
      · have ih := refValid_l0 x hn d (i + 1) (by omega)
        have hl := refValid_l1 x i hi hn _ ih i 0 (by omega)
        have e : okFrom x i = (if x[i] ∈ (x.take i).drop 0 then false else okFrom x (i + 1)) := by
          rw [List.drop_zero]
          by_cases hm : x[i] ∈ x.take i
          · rw [if_pos hm]; exact okFrom_bad x i hi (by simp [hm])
          · rw [if_neg hm]; exact okFrom_step x i hi ⟨⟨by omega, by omega⟩, hm⟩
        rw [e]
        refine Ev1 (f := fun k => commodatumref01_Valid.j2 k x i false) (Ev1 hl fun k => rfl) fun k => ?_
        simp only [commodatumref01_Valid.l0]
        rw [if_pos (by omega), if_pos (by omega), rd_at _ _ hi, if_neg h0, decide_eq_false (by omega)]
theorem okFrom_valid (x : List Int) (h1 : 1 ≤ x.length) (h7 : x.length ≤ 7) : okFrom x 0 = validB x := by
  unfold okFrom validB
  rw [decide_eq_decide]
  constructor
  · intro h
    refine ⟨h1, h7, fun y hy => ?_, ?_⟩
    · obtain ⟨j, hj, rfl⟩ := List.getElem_of_mem hy
      exact (h j (by omega) hj).1
    · refine List.pairwise_iff_getElem.2 fun i j hi hj hij he => ?_
      refine (h j (by omega) hj).2 (List.mem_iff_getElem.2 ⟨i, by simp; omega, by simp [he]⟩)
  · rintro ⟨_, _, h3, h4⟩ j _ hj
    refine ⟨h3 _ (List.getElem_mem hj), fun hm => ?_⟩
    obtain ⟨i, hi, he⟩ := List.mem_iff_getElem.1 hm
    have hij : i < j ∧ i < x.length := by simp at hi; omega
    rw [List.getElem_take] at he
    exact List.pairwise_iff_getElem.1 h4 i j (by omega) hj hij.1 he
theorem refValid (x : List Int) : Ev (fun k => commodatumref01_Valid.f k x) (validB x) := by
  by_cases h1 : x.length < 1
  · rw [show validB x = false from decide_eq_false (by omega)]
    refine EvC (f := fun k => commodatumref01_Valid.j0 k x true) (EvS fun k => rfl) fun k => ?_
    simp only [commodatumref01_Valid.f]
    rw [if_pos (by omega)]
  · by_cases h7 : 7 < x.length
    · rw [show validB x = false from decide_eq_false (by omega)]
      refine EvC (f := fun k => commodatumref01_Valid.j0 k x true) (EvS fun k => rfl) fun k => ?_
      simp only [commodatumref01_Valid.f]
      rw [if_neg (by omega), decide_eq_true (by omega)]
    · rw [← okFrom_valid x (by omega) (by omega)]
      refine EvC (f := fun k => commodatumref01_Valid.j0 k x false) (Ev1 (refValid_l0 x (by omega) x.length 0 (by omega)) fun k => rfl) fun k => ?_
      simp only [commodatumref01_Valid.f]
      rw [if_neg (by omega), decide_eq_false (by omega)]
theorem same_l0 (x y : List Int) (hl : x.length = y.length) (hn : x.length < 100000000) : ∀ d i, i + d = x.length → Ev (fun k => commodatumref01_Same.l0 k x y i) (decide (x.drop i = y.drop i))
  | 0, i, h => by
    rw [decide_eq_true (by rw [List.drop_of_length_le (by omega), List.drop_of_length_le (by omega)])]
    refine EvS fun k => ?_
    simp only [commodatumref01_Same.l0]
    rw [if_neg (by omega)]
  | d + 1, i, h => by
    have h1 : i < x.length := by omega
    have h2 : i < y.length := by omega
    have e : (x.drop i = y.drop i) = (x[i] = y[i] ∧ x.drop (i + 1) = y.drop (i + 1)) := by
      rw [List.drop_eq_getElem_cons h1, List.drop_eq_getElem_cons h2, List.cons.injEq]
    by_cases he : x[i] = y[i]
    · have ih := same_l0 x y hl hn d (i + 1) (by omega)
      rw [decide_eq_decide.2 (show (x.drop i = y.drop i) ↔ x.drop (i + 1) = y.drop (i + 1) by rw [e]; simp [he])]
      refine Ev1 ih fun k => ?_
      simp only [commodatumref01_Same.l0]
      rw [if_pos (by omega), if_pos (by omega), if_pos (by omega), rd_at _ _ h1, rd_at _ _ h2, if_pos he, w64 _ (by omega)]
    · rw [decide_eq_false (by rw [e]; simp [he])]
      refine EvS fun k => ?_
      simp only [commodatumref01_Same.l0]
      rw [if_pos (by omega), if_pos (by omega), if_pos (by omega), rd_at _ _ h1, rd_at _ _ h2, if_neg he]
theorem same (x y : List Int) (hn : x.length < 100000000) : Ev (fun k => commodatumref01_Same.f k x y) (decide (x = y)) := by
  by_cases hl : x.length = y.length
  · have h := same_l0 x y hl hn x.length 0 (by omega)
    refine EvC h fun k => ?_
    simp only [commodatumref01_Same.f]
    rw [if_pos (by omega)]; rfl
  · rw [decide_eq_false (by rintro rfl; exact hl rfl)]
    refine EvC (Ev.now false) fun k => ?_
    simp only [commodatumref01_Same.f]
    rw [if_neg (by omega)]
theorem is_ (p : List Int) (e : Int) (want : List Int) (bad : Int) (hn : p.length < 100000000) : Ev (fun k => commodatumlaw01_is.f k p e want bad) (decide (e = bad ∧ if bad = 0 then p = want else p.length = 0)) := by
  simp only [commodatumlaw01_is.f]
  by_cases h1 : e = bad
  · simp only [h1, if_true, true_and]
    by_cases h2 : bad = 0
    · simp only [h2, if_true]
      exact Ev.bind (same p want hn) (Ev.now _)
    · simp only [h2, if_false]
      by_cases h3 : p.length = 0
      · simpa [h3] using Ev.now true
      · simpa [h3] using Ev.now false
  · simpa [h1] using Ev.now false
theorem alive : Ev (fun k => commodatumlaw01_alive.f k) true := Ev.of (k := 40) commodatumlaw01_alive.mono (by decide +kernel)
theorem alive' : Ev (fun k => (commodatumlaw01_alive.f k).bind fun t => some t) true := Ev.bind alive (Ev.now _)
def shortB : List (List Int) → Bool
  | [] => true
  | x :: r => decide (x.length ≤ 100) && shortB r
theorem rd_L1_at (x : List (List Int)) (i : Nat) (h : i < x.length) : rd_L1 x (i : Int) = x[i] := by
  simp [rd_L1, List.getD_eq_getElem?_getD, List.getElem?_eq_getElem h]
theorem short_l0 (x : List (List Int)) (hn : x.length < 1000) : ∀ d i, i + d = x.length → Ev (fun k => commodatumlaw01_short.l0 k x i) (shortB (x.drop i))
  | 0, i, h => by
    rw [List.drop_of_length_le (by omega)]
    refine EvS fun k => ?_
    simp only [commodatumlaw01_short.l0]
    rw [if_neg (by omega)]; rfl
  | d + 1, i, h => by
    have h1 : i < x.length := by omega
    rw [List.drop_eq_getElem_cons h1, shortB]
    by_cases hc : x[i].length ≤ 100
    · rw [decide_eq_true hc, Bool.true_and]
      have ih := short_l0 x hn d (i + 1) (by omega)
      refine Ev1 ih fun k => ?_
      simp only [commodatumlaw01_short.l0]
      rw [if_pos (by omega), if_pos (by omega), rd_L1_at _ _ h1, if_neg (by omega), w64 _ (by omega)]
    · rw [decide_eq_false hc, Bool.false_and]
      refine EvS fun k => ?_
      simp only [commodatumlaw01_short.l0]
      rw [if_pos (by omega), if_pos (by omega), rd_L1_at _ _ h1, if_pos (by omega)]
theorem short (x : List (List Int)) (hn : x.length < 1000) : Ev (fun k => commodatumlaw01_short.f k x) (shortB x) := by
  have h := short_l0 x hn x.length 0 (by omega)
  exact EvC h fun k => rfl
theorem to7 {P : Nat → Prop} {n : Nat} (h : n ≤ 7) (h0 : P 0) (h1 : P 1) (h2 : P 2) (h3 : P 3) (h4 : P 4) (h5 : P 5) (h6 : P 6) (h7 : P 7) : P n := by
  have : n = 0 ∨ n = 1 ∨ n = 2 ∨ n = 3 ∨ n = 4 ∨ n = 5 ∨ n = 6 ∨ n = 7 := by omega
  rcases this with rfl | rfl | rfl | rfl | rfl | rfl | rfl | rfl <;> assumption
theorem ref_identity (n : Nat) (h : n ≤ 7) : Ev (fun k => commodatumref01_Identity.f k n) (idn n) :=
  to7 (P := fun n => Ev (fun k => commodatumref01_Identity.f k n) (idn n)) h
    (Ev.of (k := 10) (commodatumref01_Identity.mono _) (by decide +kernel)) (Ev.of (k := 10) (commodatumref01_Identity.mono _) (by decide +kernel)) (Ev.of (k := 10) (commodatumref01_Identity.mono _) (by decide +kernel)) (Ev.of (k := 10) (commodatumref01_Identity.mono _) (by decide +kernel)) (Ev.of (k := 10) (commodatumref01_Identity.mono _) (by decide +kernel)) (Ev.of (k := 10) (commodatumref01_Identity.mono _) (by decide +kernel)) (Ev.of (k := 10) (commodatumref01_Identity.mono _) (by decide +kernel)) (Ev.of (k := 10) (commodatumref01_Identity.mono _) (by decide +kernel))
theorem is_ok (p : List Int) (hn : p.length < 100000000) : Ev (fun k => commodatumlaw01_is.f k p 0 p 0) true := by
  have := is_ p 0 p 0 hn
  simpa using this
theorem is_bad (e : Int) (he : e ≠ 0) (want : List Int) : Ev (fun k => commodatumlaw01_is.f k [] e want e) true := by
  have := is_ [] e want e (by simp)
  simpa [he] using this
def allExt (n : Nat) (f : List Int → Bool) : Nat → List Int → Bool
  | 0, acc => f acc
  | d + 1, acc => (List.range n).all fun i => decide ((i : Int) ∈ acc) || allExt n f d (acc ++ [(i : Int)])
theorem allExt_mem {n : Nat} {f : List Int → Bool} {p : List Int} (hl : p.length = n) (hi : Into p n) (hn : p.Nodup) : ∀ d i, i + d = n → allExt n f d (p.take i) = true → f p = true
  | 0, i, h, ha => by
    rw [List.take_of_length_le (by omega)] at ha
    exact ha
  | d + 1, i, h, ha => by
    have hlt : i < p.length := by omega
    have hx := hi.at i hlt
    rw [getD_at _ _ hlt] at hx
    simp only [allExt, List.all_eq_true, List.mem_range, Bool.or_eq_true, decide_eq_true_eq] at ha
    have e : ((p[i].toNat : Nat) : Int) = p[i] := by omega
    have h1 := ha p[i].toNat (by omega)
    rw [e] at h1
    rcases h1 with h1 | h1
    · exfalso
      obtain ⟨j, hj, hje⟩ := List.mem_iff_getElem.1 h1
      rw [List.length_take] at hj
      rw [List.getElem_take] at hje
      have := nodup_at hn (i := j) (j := i) (by omega) hlt (by rw [getD_at _ _ (by omega), getD_at _ _ hlt]; exact hje)
      omega
    · refine allExt_mem hl hi hn d (i + 1) (by omega) ?_
      rw [List.take_succ_eq_append_getElem hlt]
      exact h1
end Go.Proofs.YtjfhogholmabfaaDoor.Pure
