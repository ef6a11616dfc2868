-- CUT by a program of this session: what the claim does not use is left out
import Derived.Test.YthfhnkpipdbekaaDoorQ11
import Derived.Test.YthfhnkpipdbekaaDoorTbx2
namespace Go.Proofs.YthfhnkpipdbekaaDoor.Pure
set_option linter.unusedVariables false
set_option linter.unusedSimpArgs false
open Go.RowKit Go.Proofs.YthfhnkpipdbekaaDoorW.PrintWords Go.Proofs.YthfhnkpipdbekaaDoorW.PrintLast Go.Proofs.YthfhnkpipdbekaaDoorW.PrintMore
open Ua Ta Giv Tb
theorem perm_err {n : Int} {l : List S67} {e : Int} (he : undo_enumerable.f n l = some e) (h0 : e ≠ 0) (k : Nat) : undo_Permutation.f k n l = some ([], e) := by
 unfold undo_Permutation.f
 rw [he]
 simp only [Option.bind_some]
 rw [if_neg h0]
theorem rest_err {n : Int} {l : List S67} {e : Int} (he : undo_enumerable.f n l = some e) (h0 : e ≠ 0) (k : Nat) : undo_Restores.f k n l = some ([], e) := by
 unfold undo_Restores.f
 rw [perm_err he h0]
 simp only [Option.bind_some]
 rw [if_neg h0]
theorem num_err {n : Int} {l : List S67} {e : Int} (he : undo_enumerable.f n l = some e) (h0 : e ≠ 0) (hl : l.length < 10000000) : Ev (fun k => commodatumlaw12_UndoNumbers.j0 k [] [] e n l) true := by
 have h1 : Ev (fun k => commodatumlaw12_UndoNumbers.j1 k e [] false n l) true := by
  refine Ev1 awake_bind fun k => ?_
  simp only [commodatumlaw12_UndoNumbers.j1]
  rw [if_neg (by simp), if_neg h0]
 refine Ev1 (f := fun k => (commodatumlaw12_numbers.f k [] []).bind fun t => if t = true then (commodatumref12_Equal.f k [] []).bind fun t => commodatumlaw12_UndoNumbers.j1 k e [] (!t) n l else commodatumlaw12_UndoNumbers.j1 k e [] true n l) ?_ fun k => ?_
 ·refine Ev.bind (numbers_ev [] (by decide)) (EvC (f := fun k => (commodatumref12_Equal.f k [] []).bind fun t => commodatumlaw12_UndoNumbers.j1 k e [] (!t) n l) ?_ fun k => if_pos rfl)
  exact Ev.bind (refEqual_ev [] (by decide)) h1
 ·simp only [commodatumlaw12_UndoNumbers.j0]
  rw [copy_f n l hl]
  simp only [Option.bind_some]
  rw [perm_err he h0, rest_err he h0]
  simp only [Option.bind_some]
  rw [if_pos trivial, if_pos trivial]
theorem runN_back {n : Nat} {l : List S67} (hr : ∀ o ∈ l, rightB (n : Int) o = true) {i : Nat} (hi : i < 2 ^ n) : Giv.runN (Giv.runN i l) l.reverse = i := by
 obtain ⟨e1, e2⟩ := runL_bits l hr hi
 have hr2 : ∀ o ∈ l.reverse, rightB (n : Int) o = true := fun o ho => hr o (List.mem_reverse.1 ho)
 obtain ⟨e3, e4⟩ := runL_bits l.reverse hr2 e2
 refine bitsL_inj (n := n) e4 hi ?_
 rw [← e3, ← e1]
 exact runL_back l (bitsL n i) (fun o ho => by rw [bitsL_len]; exact hr o ho)
theorem num_l0 {n : Nat} {l : List S67} (hr : ∀ o ∈ l, rightB (n : Int) o = true) (hn : n ≤ 20) : ∀ (d i : Nat), i + d = 2 ^ n → Ev (fun k => commodatumlaw12_UndoNumbers.l0 k (permL n l) (permL n l.reverse) (i : Int)) true
 | 0, i, h => by
  refine Ev1 awake_bind fun k => ?_
  simp only [commodatumlaw12_UndoNumbers.l0]
  rw [if_neg (by rw [permL_len]; omega)]
 | d + 1, i, h => by
  have hp := pow_le n hn
  have hi : i < 2 ^ n := by omega
  have h2 := (runL_bits l hr hi).2
  refine Ev1 (num_l0 hr hn d (i + 1) (by omega)) fun k => ?_
  simp only [commodatumlaw12_UndoNumbers.l0]
  rw [if_pos (by rw [permL_len]; omega), if_pos (by omega), permL_get hi, if_pos (by omega), if_pos (by rw [permL_len]; omega), permL_get h2, runN_back hr hi, if_pos rfl, w64 _ (by omega)]
theorem num_ok {n : Nat} {l : List S67} (hv : validB n l = true) (hn : n ≤ 20) (hc : (1 + l.length) * 2 ^ n ≤ 16777216) : Ev (fun k => commodatumlaw12_UndoNumbers.j0 k (permL n l) (restL n l) 0 n l) true := by
 obtain ⟨⟨_, _, hl⟩, hr⟩ := validB_all hv
 have hp := pow_le n hn
 have hrl : (restL n l).length = n := by simp [restL]
 have hrev : (1 + l.reverse.length) * 2 ^ n ≤ 16777216 := by rw [List.length_reverse]; exact hc
 have h2 : Ev (fun k => commodatumlaw12_UndoNumbers.j2 k (permL n l) (permL n l.reverse) false) true := Ev1 (num_l0 hr hn (2 ^ n) 0 (by omega)) fun k => rfl
 have h1 : Ev (fun k => commodatumlaw12_UndoNumbers.j1 k 0 (permL n l) false n l) true := by
  refine Ev1 (f := fun k => (undo_Inverse.f k n l).bind fun b => (undo_Permutation.f k b.1 b.2.1).bind fun c => if b.2.2 = 0 then (if c.2 = 0 then commodatumlaw12_UndoNumbers.j2 k (permL n l) c.1 ((c.1.length : Int) != ((permL n l).length : Int)) else commodatumlaw12_UndoNumbers.j2 k (permL n l) c.1 true) else commodatumlaw12_UndoNumbers.j2 k (permL n l) c.1 true) ?_ fun k => ?_
  ·refine Ev.bind (inverse_ev hv) (Ev.bind (permutation_ev (valid_rev hv) hn hrev) ?_)
   refine EvC h2 fun k => ?_
   rw [if_pos rfl, if_pos rfl, permL_len, permL_len]
   simp
  ·simp only [commodatumlaw12_UndoNumbers.j1]
   rw [if_neg (by simp), copy_f _ l (by omega)]
   simp
 refine Ev1 (f := fun k => (undo_Permutation.f k n l).bind fun b => (undo_Restores.f k n l).bind fun c => if b.2 = 0 then (if c.2 = 0 then ((commodatumlaw12_numbers.f k b.1 (permL n l)).bind fun t => if t = true then (commodatumref12_Equal.f k c.1 (restL n l)).bind fun t => commodatumlaw12_UndoNumbers.j1 k 0 b.1 (!t) n l else commodatumlaw12_UndoNumbers.j1 k 0 b.1 true n l) else commodatumlaw12_UndoNumbers.j1 k 0 b.1 true n l) else commodatumlaw12_UndoNumbers.j1 k 0 b.1 true n l) ?_ fun k => ?_
 ·refine Ev.bind (permutation_ev hv hn hc) (Ev.bind (restores_ev hv hn hc) ?_)
  refine EvC (f := fun k => (commodatumlaw12_numbers.f k (permL n l) (permL n l)).bind fun t => if t = true then (commodatumref12_Equal.f k (restL n l) (restL n l)).bind fun t => commodatumlaw12_UndoNumbers.j1 k 0 (permL n l) (!t) n l else commodatumlaw12_UndoNumbers.j1 k 0 (permL n l) true n l) ?_ fun k => by rw [if_pos rfl, if_pos rfl]
  refine Ev.bind (numbers_ev _ (by rw [permL_len]; omega)) (EvC (f := fun k => (commodatumref12_Equal.f k (restL n l) (restL n l)).bind fun t => commodatumlaw12_UndoNumbers.j1 k 0 (permL n l) (!t) n l) ?_ fun k => if_pos rfl)
  exact Ev.bind (refEqual_ev _ (by rw [hrl]; omega)) h1
 ·simp only [commodatumlaw12_UndoNumbers.j0]
  rw [copy_f _ l (by omega)]
  simp only [Option.bind_some]
theorem cost_f {n : Nat} {l : List S67} (hn : n ≤ 20) (hl : l.length ≤ 200000) : commodatumref12_Cost.f n l n = some (((1 + l.length) * 2 ^ n : Nat) : Int) := by
 have h2 := (cost_mul hn hl).2
 have e : wrap64 (1 + (l.length : Int)) = ((1 + l.length : Nat) : Int) := by unfold wrap64; omega
 unfold commodatumref12_Cost.f
 rw [if_neg (by omega), if_pos (by omega), pow_int n hn, e, ← Int.natCast_mul, Nat.mul_comm]
 congr 1
 generalize (1 + l.length) * 2 ^ n = X at *
 unfold wrap64
 rw [p62] at h2
 omega
theorem pure_UndoNumbers (n : Int) (l : List S67) (h : l.length ≤ maxLen) : ∃ k, commodatumlaw12_UndoNumbers.f k n l = some true := by
 have key : Ev (fun k => commodatumlaw12_UndoNumbers.f k n l) true := by
  unfold commodatumlaw12_UndoNumbers.f commodatumlaw12_Wide.f
  simp only [Option.bind_some]
  by_cases hw : (l.length : Int) > 20000
  ·exact EvC awake_bind fun k => by rw [decide_eq_true hw]; rfl
  ·refine EvC (f := fun k => (commodatumref12_Valid.f k n l).bind fun t => if t = true then (commodatumref12_Large.f n l).bind fun t => if t = true then commodatumlaw12_UndoNumbers.j0 k [] [] 5 n l else (commodatumref12_Cost.f n l n).bind fun t => if t > 400000 then (commodatumlaw12_Awake.f k).bind fun t => some t else (commodatumref12_Permutation.f k n l).bind fun a => (commodatumref12_Restores.f k n l).bind fun b => commodatumlaw12_UndoNumbers.j0 k a b 0 n l else commodatumlaw12_UndoNumbers.j0 k [] [] 1 n l) ?_ fun k => by rw [decide_eq_false hw, if_neg (by simp)]
   refine Ev.bind (refValid_ev n l) ?_
   cases hv : validB n l with
   | false =>
    have he : undo_enumerable.f n l = some 1 := by
     unfold undo_enumerable.f undo_Valid.f
     rw [hv]; rfl
    exact EvC (num_err he (by decide) (by omega)) fun k => if_neg (by simp)
   | true =>
    obtain ⟨⟨h1, h2, h3⟩, hr⟩ := validB_all hv
    obtain ⟨m, rfl⟩ : ∃ m : Nat, n = m := ⟨n.toNat, by omega⟩
    have hev : undo_Valid.f (m : Int) l = some true := congrArg some hv
    by_cases hm : m ≤ 20
    ·have hcst := cost_f hm h3
     have hL : commodatumref12_Large.f m l = some (decide ((((1 + l.length) * 2 ^ m : Nat) : Int) > 16777216)) := by
      unfold commodatumref12_Large.f
      rw [if_neg (by omega), hcst]; rfl
     by_cases hc : (1 + l.length) * 2 ^ m ≤ 16777216
     ·by_cases hc4 : (((1 + l.length) * 2 ^ m : Nat) : Int) > 400000
      ·refine EvC awake_bind fun k => ?_
       rw [if_pos rfl, hL, decide_eq_false (by omega)]
       simp only [Option.bind_some]
       rw [if_neg (by simp), hcst]
       simp only [Option.bind_some]
       rw [if_pos hc4]
      ·refine EvC (f := fun k => (commodatumref12_Permutation.f k m l).bind fun a => (commodatumref12_Restores.f k m l).bind fun b => commodatumlaw12_UndoNumbers.j0 k a b 0 m l) ?_ fun k => ?_
       ·exact Ev.bind (refPerm_ev hr hm h3) (Ev.bind (refRest_ev hr hm h3) (num_ok hv hm hc))
       ·rw [if_pos rfl, hL, decide_eq_false (by omega)]
        simp only [Option.bind_some]
        rw [if_neg (by simp), hcst]
        simp only [Option.bind_some]
        rw [if_neg hc4]
     ·have he : undo_enumerable.f m l = some 5 := by
       unfold undo_enumerable.f
       rw [hev]
       simp only [Option.bind_some, if_true]
       rw [if_neg (by omega), if_pos (by omega), (cost_mul hm h3).1, if_pos (by omega)]
      refine EvC (num_err he (by decide) (by omega)) fun k => ?_
      rw [if_pos rfl, hL, decide_eq_true (by omega)]
      rfl
    ·have he : undo_enumerable.f m l = some 5 := by
      unfold undo_enumerable.f
      rw [hev]
      simp only [Option.bind_some, if_true]
      rw [if_pos (by omega)]
     refine EvC (num_err he (by decide) (by omega)) fun k => ?_
     have hL : commodatumref12_Large.f m l = some true := by
      unfold commodatumref12_Large.f
      rw [if_pos (by omega)]
     rw [if_pos rfl, hL]
     rfl
 exact key.elim fun k hk => ⟨k, hk k (Nat.le_refl _)⟩
end Go.Proofs.YthfhnkpipdbekaaDoor.Pure
