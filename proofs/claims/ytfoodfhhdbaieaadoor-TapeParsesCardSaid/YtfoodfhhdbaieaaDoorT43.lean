-- CUT by a program of this session: what the claim does not use is left out
import Derived.Test.YtfoodfhhdbaieaaDoorT15
import Derived.Test.YtfoodfhhdbaieaaDoorKax2
namespace Go.Proofs.YtfoodfhhdbaieaaDoor.Giv
set_option maxRecDepth 100000
set_option linter.unusedSimpArgs false
set_option linter.unusedVariables false
open Go.RowKit Go.Proofs.YtfoodfhhdbaieaaDoorW.PrintWords Go.Proofs.YtfoodfhhdbaieaaDoorW.PrintLast Go.Proofs.YtfoodfhhdbaieaaDoorW.PrintMore
open Go.Proofs.YtfoodfhhdbaieaaDoor.Ka (S40 z40 rd_T40 commodatumref20_within.l0 commodatumref20_within.f commodatumref20_Equal.l0 commodatumref20_Equal.f commodatumref20_Valid.f commodatumref20_Valid.l0 commodatumref20_Valid.l1 commodatumref20_Valid.j0 commodatumref20_Valid.j2 commodatumref20_Valid.j3)

def Evt (g : Nat → Option Bool) (r : Bool) : Prop := ∃ K, ∀ k, K ≤ k → g k = some r
theorem w64_in {x : Int} (h0 : -9223372036854775808 ≤ x) (h1 : x ≤ 9223372036854775807) : wrap64 x = x := by unfold wrap64; omega
def withinB (l : List Int) (n lo hi : Int) : Bool := l.all (fun x => decide (lo ≤ x) && decide (x ≤ hi)) && ((l.length : Int) == n)
theorem rd_nth {l : List Int} {i : Nat} (h : i < l.length) : rd l i = l[i] := by
 unfold rd; rw [Int.toNat_natCast, List.getD_eq_getElem?_getD, List.getElem?_eq_getElem h]; rfl
theorem within_l0 {l : List Int} {n lo hi : Int} (hl : l.length ≤ 1000000) : ∀ (k i : Nat), i ≤ l.length → l.length - i < k → commodatumref20_within.l0 k l n lo hi i = some ((l.drop i).all (fun x => decide (lo ≤ x) && decide (x ≤ hi)) && ((l.length : Int) == n))
 | 0, i, h1, h2 => by omega
 | k + 1, i, h1, h2 => by
  unfold commodatumref20_within.l0
  by_cases hi' : i < l.length
  ·rw [if_pos (by omega), if_pos (by omega), rd_nth hi', List.drop_eq_getElem_cons hi', List.all_cons]
   by_cases a : l[i] < lo
   ·rw [if_pos a, show decide (lo ≤ l[i]) = false from decide_eq_false (by omega)]; rfl
   ·rw [if_neg a, show decide (lo ≤ l[i]) = true from decide_eq_true (by omega)]
    by_cases b : l[i] > hi
    ·rw [if_pos b, show decide (l[i] ≤ hi) = false from decide_eq_false (by omega)]; rfl
    ·rw [if_neg b, show decide (l[i] ≤ hi) = true from decide_eq_true (by omega), w64_in (by omega) (by omega)]
     rw [show ((i : Int) + 1) = ((i + 1 : Nat) : Int) by omega, within_l0 hl k (i + 1) (by omega) (by omega)]
     rfl
  ·rw [if_neg (by omega), List.drop_of_length_le (by omega)]
   rfl
theorem within_ev {l : List Int} (n lo hi : Int) (hl : l.length ≤ 1000000) : Evt (fun k => commodatumref20_within.f k l n lo hi) (withinB l n lo hi) :=
 ⟨l.length + 1, fun k hk => by
  show commodatumref20_within.l0 k l n lo hi 0 = _
  have := within_l0 (n := n) (lo := lo) (hi := hi) hl k 0 (by omega) (by omega)
  simpa [withinB] using this⟩
theorem equal_l0 {l m : List Int} (hl : l.length ≤ 1000000) (he : l.length = m.length) : ∀ (k i : Nat), i ≤ l.length → l.length - i < k → commodatumref20_Equal.l0 k l m i = some (decide (l.drop i = m.drop i))
 | 0, i, h1, h2 => by omega
 | k + 1, i, h1, h2 => by
  unfold commodatumref20_Equal.l0
  by_cases hi : i < l.length
  ·have hm : i < m.length := by omega
   rw [if_pos (by omega), if_pos (by omega), if_pos (by omega), rd_nth hi, rd_nth hm, List.drop_eq_getElem_cons hi, List.drop_eq_getElem_cons hm]
   by_cases a : l[i] = m[i]
   ·rw [if_pos a, w64_in (by omega) (by omega), show ((i : Int) + 1) = ((i + 1 : Nat) : Int) by omega, equal_l0 hl he k (i + 1) (by omega) (by omega)]
    simp only [List.cons.injEq, a, true_and]
   ·rw [if_neg a]
    simp only [List.cons.injEq, a, false_and, decide_false]
  ·rw [if_neg (by omega), List.drop_of_length_le (by omega), List.drop_of_length_le (by omega)]
   rfl
theorem equal_ev {l m : List Int} (hl : l.length ≤ 1000000) : Evt (fun k => commodatumref20_Equal.f k l m) (decide (l = m)) :=
 ⟨l.length + 1, fun k hk => by
  show commodatumref20_Equal.f k l m = _
  unfold commodatumref20_Equal.f
  by_cases he : l.length = m.length
  ·rw [if_pos (by omega)]
   have := equal_l0 hl he k 0 (by omega) (by omega)
   simpa using this
  ·rw [if_neg (by omega), show decide (l = m) = false from decide_eq_false (fun e => he (by rw [e]))]⟩
section
variable {a0 a1 a2 : Int} {l : List S40}
theorem Evt.up {g g' : Nat → Option Bool} {r r' : Bool} (h : Evt g r) (K : Nat) (hs : ∀ k, K ≤ k → g k = some r → g' (k + 1) = some r') : Evt g' r' := by
 obtain ⟨K0, h0⟩ := h
 refine ⟨max K K0 + 1, fun k hk => ?_⟩
 obtain ⟨k', rfl⟩ : ∃ k', k = k' + 1 := ⟨k - 1, by omega⟩
 exact hs k' (by omega) (h0 k' (by omega))
theorem valid_l1 (hlen : l.length ≤ 2000) (hrow : ∀ r ∈ l, r.f1.length ≤ 100) {i : Nat} (hi : i < l.length) {f0 f2 : Int} {f1 f3 f4 : List Int} {b : Bool} (hb : Evt (fun k => commodatumref20_Valid.l0 k ((i + 1 : Nat) : Int) a0 a1 a2 l) b) : ∀ (n j : Nat), j + n = i →
  Evt (fun k => commodatumref20_Valid.l1 k i j a0 a1 a2 l f0 f1 f2 f3 f4) (!((l.take i).drop j).any (fun r => decide (r.f0 = f0) && decide (r.f1 = f1)) && b)
 | 0, j, hj => by
  refine hb.up 0 (fun k _ hk => ?_)
  show commodatumref20_Valid.l1 (k + 1) _ _ _ _ _ _ _ _ _ _ _ = _
  unfold commodatumref20_Valid.l1
  rw [if_neg (by omega), w64_in (by omega) (by omega), show ((i : Int) + 1) = ((i + 1 : Nat) : Int) by omega, List.drop_of_length_le (by rw [List.length_take]; omega)]
  simpa using hk
 | n + 1, j, hj => by
  have ih := valid_l1 hlen hrow hi (f0 := f0) (f2 := f2) (f1 := f1) (f3 := f3) (f4 := f4) hb n (j + 1) (by omega)
  have hjl : j < l.length := by omega
  have hr : rd_T40 l (j : Int) = l[j] := by unfold rd_T40; rw [Int.toNat_natCast, List.getD_eq_getElem?_getD, List.getElem?_eq_getElem hjl]; rfl
  have hd : (l.take i).drop j = l[j] :: (l.take i).drop (j + 1) := by
   rw [List.drop_eq_getElem_cons (by rw [List.length_take]; omega), List.getElem_take]
  obtain ⟨K1, h1⟩ := equal_ev (l := l[j].f1) (m := f1) (by have := hrow l[j] (List.getElem_mem _); omega)
  refine ih.up K1 (fun k hk hs => ?_)
  show commodatumref20_Valid.l1 (k + 1) _ _ _ _ _ _ _ _ _ _ _ = _
  unfold commodatumref20_Valid.l1
  rw [if_pos (by omega), if_pos (by omega), if_pos (by omega), hr, hd, List.any_cons, w64_in (by omega) (by omega), show ((j : Int) + 1) = ((j + 1 : Nat) : Int) by omega]
  try simp only at hs
  by_cases e0 : l[j].f0 = f0
  ·rw [if_pos e0, show commodatumref20_Equal.f k l[j].f1 f1 = _ from h1 k hk, Option.bind_some, decide_eq_true e0]
   by_cases e1 : l[j].f1 = f1
   ·rw [decide_eq_true e1, if_pos rfl]; rfl
   ·rw [decide_eq_false e1, if_neg (by decide), hs]; rfl
  ·rw [if_neg e0, decide_eq_false e0, hs]; rfl
theorem all_range {f : Nat → Bool} {n : Nat} : (List.range n).all f = true ↔ ∀ i, i < n → f i = true := by
 simp [List.all_eq_true, List.mem_range]
theorem withinB_iff {x : List Int} {n lo hi : Int} : withinB x n lo hi = true ↔ (x.length : Int) = n ∧ ∀ i : Nat, i < x.length → lo ≤ rd x i ∧ rd x i ≤ hi := by
 unfold withinB
 simp only [Bool.and_eq_true, List.all_eq_true, decide_eq_true_eq, beq_iff_eq]
 constructor
 ·rintro ⟨h1, h2⟩
  exact ⟨h2, fun i hi => by rw [rd_nth hi]; exact h1 _ (List.getElem_mem _)⟩
 ·rintro ⟨h1, h2⟩
  refine ⟨fun y hy => ?_, h1⟩
  obtain ⟨i, hi, rfl⟩ := List.getElem_of_mem hy
  have := h2 i hi
  rwa [rd_nth hi] at this
def headR (a0 : Int) (r : S40) : Bool := decide (r.f0 < 0) || decide (a0 ≤ r.f0) || decide (r.f0 = 1) || decide (r.f0 = 2) || decide (r.f2 < 0) || decide (a0 ≤ r.f2)
theorem rule_eq (ha2 : 1 ≤ a2) (r : S40) : ruleB a0 a1 a2 r = (!headR a0 r && (withinB r.f1 a2 0 (a1 - 1) && (withinB r.f3 a2 0 (a1 - 1) && withinB r.f4 a2 (-1) 1))) := by
 rw [Bool.eq_iff_iff]
 unfold ruleB headR
 simp only [Bool.and_eq_true, withinB_iff, all_range, inR, cellB, Bool.not_eq_true', Bool.or_eq_false_iff, decide_eq_true_eq, decide_eq_false_iff_not, beq_eq_false_iff_ne, beq_iff_eq, ne_eq]
 constructor
 ·rintro ⟨⟨⟨⟨⟨⟨⟨h1, h2⟩, h3⟩, h4⟩, h5⟩, h6⟩, h7⟩, h8⟩
  refine ⟨⟨⟨⟨⟨⟨by omega, by omega⟩, h2⟩, h3⟩, by omega⟩, by omega⟩, ⟨h5, fun i hi => ?_⟩, ⟨h6, fun i hi => ?_⟩, h7, fun i hi => ?_⟩
  ·exact (h8 i (by omega)).1.1
  ·exact (h8 i (by omega)).1.2
  ·exact (h8 i (by omega)).2
 ·rintro ⟨⟨⟨⟨⟨⟨h1, h2⟩, h3⟩, h4⟩, h5⟩, h6⟩, ⟨h7, h8⟩, ⟨h9, h10⟩, h11, h12⟩
  exact ⟨⟨⟨⟨⟨⟨⟨⟨by omega, by omega⟩, h3⟩, h4⟩, ⟨by omega, by omega⟩⟩, h7⟩, h9⟩, h11⟩, fun i hi => ⟨⟨h8 i (by omega), h10 i (by omega)⟩, h12 i (by omega)⟩⟩
theorem keyL_eq {s s' : Int} {x y : List Int} (hx : x.length ≤ 3) (hxy : x.length = y.length) : keyL s x = keyL s' y ↔ s = s' ∧ x = y := by
 constructor
 ·intro h
  simp only [keyL, List.cons.injEq, and_true] at h
  obtain ⟨h0, h1, h2, h3⟩ := h
  refine ⟨h0, List.ext_getElem hxy fun i i1 i2 => ?_⟩
  rw [← rd_nth i1, ← rd_nth i2]
  rcases (by omega : i = 0 ∨ i = 1 ∨ i = 2) with rfl | rfl | rfl
  ·exact h1
  ·exact h2
  ·exact h3
 ·rintro ⟨rfl, rfl⟩; rfl
theorem rule_len {r : S40} (h : ruleB a0 a1 a2 r = true) : (r.f1.length : Int) = a2 := by
 unfold ruleB at h
 simp only [Bool.and_eq_true, beq_iff_eq] at h
 exact h.1.1.1.2
theorem valid_l0 (hlen : l.length ≤ 2000) (hrow : ∀ r ∈ l, r.f1.length ≤ 100 ∧ r.f3.length ≤ 100 ∧ r.f4.length ≤ 100) (ha1 : 2 ≤ a1 ∧ a1 ≤ 8) (ha2 : 1 ≤ a2 ∧ a2 ≤ 3) : ∀ (n i : Nat), i + n = l.length → (∀ r ∈ l.take i, ruleB a0 a1 a2 r = true) →
  Evt (fun k => commodatumref20_Valid.l0 k i a0 a1 a2 l) (rulesB a0 a1 a2 (keysL (l.take i)) (l.drop i))
 | 0, i, hi, _ => by
  refine ⟨1, fun k hk => ?_⟩
  obtain ⟨k', rfl⟩ : ∃ k', k = k' + 1 := ⟨k - 1, by omega⟩
  show commodatumref20_Valid.l0 (k' + 1) _ _ _ _ _ = _
  unfold commodatumref20_Valid.l0
  rw [if_neg (by omega), List.drop_of_length_le (by omega)]
  rfl
 | n + 1, i, hi, hok => by
  have hil : i < l.length := by omega
  have hr : rd_T40 l (i : Int) = l[i] := by unfold rd_T40; rw [Int.toNat_natCast, List.getD_eq_getElem?_getD, List.getElem?_eq_getElem hil]; rfl
  have hd : l.drop i = l[i] :: l.drop (i + 1) := List.drop_eq_getElem_cons hil
  have ht : l.take (i + 1) = l.take i ++ [l[i]] := by rw [List.take_succ_eq_append_getElem hil]
  have hk : keysL (l.take (i + 1)) = keysL (l.take i) ++ [keyL l[i].f0 l[i].f1] := by unfold keysL; rw [ht, List.map_append]; rfl
  have hrw := hrow l[i] (List.getElem_mem _)
  have e : rulesB a0 a1 a2 (keysL (l.take i)) (l.drop i) = (ruleB a0 a1 a2 l[i] && !(keysL (l.take i)).contains (keyL l[i].f0 l[i].f1) && rulesB a0 a1 a2 (keysL (l.take (i + 1))) (l.drop (i + 1))) := by
   rw [hd, hk]; rfl
  have key : Evt (fun k => commodatumref20_Valid.j2 k i (headR a0 l[i]) a0 a1 a2 l l[i].f0 l[i].f1 l[i].f2 l[i].f3 l[i].f4) (rulesB a0 a1 a2 (keysL (l.take i)) (l.drop i)) := by
   rw [e, rule_eq ha2.1]
   have hw : wrap64 (a1 - 1) = a1 - 1 := w64_in (by omega) (by omega)
   cases hh : headR a0 l[i] with
   | true =>
    refine ⟨1, fun k hk => ?_⟩
    obtain ⟨k', rfl⟩ : ∃ k', k = k' + 1 := ⟨k - 1, by omega⟩
    show commodatumref20_Valid.j2 (k' + 1) _ _ _ _ _ _ _ _ _ _ _ = _
    unfold commodatumref20_Valid.j2
    rw [if_pos rfl]; rfl
   | false =>
    obtain ⟨K1, w1⟩ := within_ev (l := l[i].f1) a2 0 (a1 - 1) (by omega)
    obtain ⟨K3, w3⟩ := within_ev (l := l[i].f3) a2 0 (a1 - 1) (by omega)
    obtain ⟨K4, w4⟩ := within_ev (l := l[i].f4) a2 (-1) 1 (by omega)
    have j3t : Evt (fun k => commodatumref20_Valid.j3 k i true a0 a1 a2 l l[i].f0 l[i].f1 l[i].f2 l[i].f3 l[i].f4) false :=
     ⟨1, fun k hk => by
      obtain ⟨k', rfl⟩ : ∃ k', k = k' + 1 := ⟨k - 1, by omega⟩
      show commodatumref20_Valid.j3 (k' + 1) _ _ _ _ _ _ _ _ _ _ _ = _
      unfold commodatumref20_Valid.j3
      rw [if_pos rfl]⟩
    cases b1 : withinB l[i].f1 a2 0 (a1 - 1) with
    | false =>
     refine j3t.up K1 (fun k hk hs => ?_)
     show commodatumref20_Valid.j2 (k + 1) _ _ _ _ _ _ _ _ _ _ _ = _
     unfold commodatumref20_Valid.j2
     rw [if_neg (by decide), hw, show commodatumref20_within.f k l[i].f1 a2 0 (a1 - 1) = _ from w1 k hk, b1, Option.bind_some, if_neg (by decide)]
     exact hs
    | true =>
     cases b3 : withinB l[i].f3 a2 0 (a1 - 1) with
     | false =>
      refine j3t.up (max K1 K3) (fun k hk hs => ?_)
      show commodatumref20_Valid.j2 (k + 1) _ _ _ _ _ _ _ _ _ _ _ = _
      unfold commodatumref20_Valid.j2
      rw [if_neg (by decide), hw, show commodatumref20_within.f k l[i].f1 a2 0 (a1 - 1) = _ from w1 k (by omega), b1, Option.bind_some, if_pos rfl, show commodatumref20_within.f k l[i].f3 a2 0 (a1 - 1) = _ from w3 k (by omega), b3, Option.bind_some, if_neg (by decide)]
      exact hs
     | true =>
      cases b4 : withinB l[i].f4 a2 (-1) 1 with
      | false =>
       refine j3t.up (max K1 (max K3 K4)) (fun k hk hs => ?_)
       show commodatumref20_Valid.j2 (k + 1) _ _ _ _ _ _ _ _ _ _ _ = _
       unfold commodatumref20_Valid.j2
       rw [if_neg (by decide), hw, show commodatumref20_within.f k l[i].f1 a2 0 (a1 - 1) = _ from w1 k (by omega), b1, Option.bind_some, if_pos rfl, show commodatumref20_within.f k l[i].f3 a2 0 (a1 - 1) = _ from w3 k (by omega), b3, Option.bind_some, if_pos rfl, show commodatumref20_within.f k l[i].f4 a2 (-1) 1 = _ from w4 k (by omega), b4, Option.bind_some]
       exact hs
      | true =>
       have hrule : ruleB a0 a1 a2 l[i] = true := by rw [rule_eq ha2.1, hh, b1, b3, b4]; rfl
       have ih := valid_l0 hlen hrow ha1 ha2 n (i + 1) (by omega) (fun r hr => by
        rw [ht] at hr
        rcases List.mem_append.1 hr with hr | hr
        ·exact hok r hr
        ·rw [List.mem_singleton.1 hr]; exact hrule)
       have h1 := valid_l1 hlen (fun r hr => (hrow r hr).1) hil (f0 := l[i].f0) (f2 := l[i].f2) (f1 := l[i].f1) (f3 := l[i].f3) (f4 := l[i].f4) ih i 0 (by omega)
       have hc : ((l.take i).drop 0).any (fun r => decide (r.f0 = l[i].f0) && decide (r.f1 = l[i].f1)) = (keysL (l.take i)).contains (keyL l[i].f0 l[i].f1) := by
        rw [Bool.eq_iff_iff, List.drop_zero]
        simp only [List.any_eq_true, Bool.and_eq_true, decide_eq_true_eq, List.contains_iff_mem, keysL, List.mem_map]
        constructor
        ·rintro ⟨r, hr, e1, e2⟩
         exact ⟨r, hr, by rw [e1, e2]⟩
        ·rintro ⟨r, hr, e1⟩
         have l1 := rule_len (hok r hr)
         have l2 := rule_len hrule
         obtain ⟨e2, e3⟩ := (keyL_eq (by omega) (by omega)).1 e1
         exact ⟨r, hr, e2, e3⟩
       rw [hc] at h1
       have h3 : Evt (fun k => commodatumref20_Valid.j3 k i false a0 a1 a2 l l[i].f0 l[i].f1 l[i].f2 l[i].f3 l[i].f4) (!(keysL (l.take i)).contains (keyL l[i].f0 l[i].f1) && rulesB a0 a1 a2 (keysL (l.take (i + 1))) (l.drop (i + 1))) := h1.up 0 (fun k _ hs => by
        show commodatumref20_Valid.j3 (k + 1) _ _ _ _ _ _ _ _ _ _ _ = _
        unfold commodatumref20_Valid.j3
        rw [if_neg (by decide)]
        exact hs)
       refine h3.up (max K1 (max K3 K4)) (fun k hk hs => ?_)
       show commodatumref20_Valid.j2 (k + 1) _ _ _ _ _ _ _ _ _ _ _ = _
       unfold commodatumref20_Valid.j2
       rw [if_neg (by decide), hw, show commodatumref20_within.f k l[i].f1 a2 0 (a1 - 1) = _ from w1 k (by omega), b1, Option.bind_some, if_pos rfl, show commodatumref20_within.f k l[i].f3 a2 0 (a1 - 1) = _ from w3 k (by omega), b3, Option.bind_some, if_pos rfl, show commodatumref20_within.f k l[i].f4 a2 (-1) 1 = _ from w4 k (by omega), b4, Option.bind_some]
       simpa using hs
  refine key.up 0 (fun k _ hs => ?_)
  show commodatumref20_Valid.l0 (k + 1) _ _ _ _ _ = _
  unfold commodatumref20_Valid.l0
  rw [if_pos (by omega), if_pos (by omega), hr]
  try simp only at hs
  unfold headR at hs
  by_cases c1 : l[i].f0 < 0
  ·rw [if_pos c1]; rw [decide_eq_true c1] at hs; simpa using hs
  rw [if_neg c1]; rw [decide_eq_false c1] at hs
  by_cases c2 : l[i].f0 ≥ a0
  ·rw [if_pos c2]; rw [decide_eq_true (show a0 ≤ l[i].f0 from c2)] at hs; simpa using hs
  rw [if_neg c2]; rw [decide_eq_false (show ¬ a0 ≤ l[i].f0 from c2)] at hs
  by_cases c3 : l[i].f0 = 1
  ·rw [if_pos c3]; rw [decide_eq_true c3] at hs; simpa using hs
  rw [if_neg c3]; rw [decide_eq_false c3] at hs
  by_cases c4 : l[i].f0 = 2
  ·rw [if_pos c4]; rw [decide_eq_true c4] at hs; simpa using hs
  rw [if_neg c4]; rw [decide_eq_false c4] at hs
  by_cases c5 : l[i].f2 < 0
  ·rw [if_pos c5]; rw [decide_eq_true c5] at hs; simpa using hs
  rw [if_neg c5]; rw [decide_eq_false c5] at hs
  simpa using hs
theorem refValid_total (hlen : l.length ≤ 2000) (hrow : ∀ r ∈ l, r.f1.length ≤ 100 ∧ r.f3.length ≤ 100 ∧ r.f4.length ≤ 100) : ∃ k, commodatumref20_Valid.f k a0 a1 a2 l = some (validM a0 a1 a2 l) := by
 unfold commodatumref20_Valid.f validM headB inR
 by_cases c1 : a0 < 3
 ·refine ⟨1, ?_⟩
  rw [if_pos c1, show decide (3 ≤ a0) = false from decide_eq_false (by omega)]; rfl
 rw [show decide (3 ≤ a0) = true from decide_eq_true (by omega)]
 by_cases c2 : a0 > 64
 ·refine ⟨1, ?_⟩
  rw [if_neg c1, if_pos c2, show decide (a0 ≤ 64) = false from decide_eq_false (by omega)]; rfl
 rw [show decide (a0 ≤ 64) = true from decide_eq_true (by omega)]
 by_cases c3 : a1 < 2
 ·refine ⟨1, ?_⟩
  rw [if_neg c1, if_neg c2, if_pos c3, show decide (2 ≤ a1) = false from decide_eq_false (by omega)]; rfl
 rw [show decide (2 ≤ a1) = true from decide_eq_true (by omega)]
 by_cases c4 : a1 > 8
 ·refine ⟨1, ?_⟩
  rw [if_neg c1, if_neg c2, if_neg c3, if_pos c4, show decide (a1 ≤ 8) = false from decide_eq_false (by omega)]; rfl
 rw [show decide (a1 ≤ 8) = true from decide_eq_true (by omega)]
 by_cases c5 : a2 < 1
 ·refine ⟨1, ?_⟩
  rw [if_neg c1, if_neg c2, if_neg c3, if_neg c4, if_pos c5, show decide (1 ≤ a2) = false from decide_eq_false (by omega)]; rfl
 rw [show decide (1 ≤ a2) = true from decide_eq_true (by omega)]
 by_cases c6 : a2 > 3
 ·refine ⟨1, ?_⟩
  rw [if_neg c1, if_neg c2, if_neg c3, if_neg c4, if_neg c5, show decide (a2 ≤ 3) = false from decide_eq_false (by omega), show decide (a2 > 3) = true from decide_eq_true c6]; rfl
 obtain ⟨K, h⟩ := valid_l0 (a0 := a0) (a1 := a1) (a2 := a2) hlen hrow (by omega) (by omega) l.length 0 (by omega) (fun r hr => by simp at hr)
 refine ⟨K + 1, ?_⟩
 rw [if_neg c1, if_neg c2, if_neg c3, if_neg c4, if_neg c5, show decide (a2 ≤ 3) = true from decide_eq_true (by omega), show decide (a2 > 3) = false from decide_eq_false c6]
 show commodatumref20_Valid.j0 (K + 1) false a0 a1 a2 l = some (rulesB a0 a1 a2 [] l)
 show (if false = true then some false else commodatumref20_Valid.l0 K 0 a0 a1 a2 l) = _
 rw [if_neg (by decide)]
 exact h K (Nat.le_refl _)
end
end Go.Proofs.YtfoodfhhdbaieaaDoor.Giv
