-- CUT by a program of this session: what the claim does not use is left out
import Derived.Test.YthfhnkpipdbekaaDoorQ12
import Derived.Test.YthfhnkpipdbekaaDoorTjx2
namespace Go.Proofs.YthfhnkpipdbekaaDoor.Pure
set_option linter.unusedVariables false
set_option linter.unusedSimpArgs false
open Go.RowKit Go.Proofs.YthfhnkpipdbekaaDoorW.PrintWords Go.Proofs.YthfhnkpipdbekaaDoorW.PrintLast Go.Proofs.YthfhnkpipdbekaaDoorW.PrintMore
open Ua Ta Giv Tb Tj
theorem refJoin_g (n m : Int) (l r : List S67) (hl : l.length < 10000000) (hr : r.length < 10000000) : commodatumref12_Join.f n l m r = some (n, l ++ r) := by
 unfold commodatumref12_Join.f
 simp only [Option.bind_some]
 rw [if_pos (by simp; omega)]
 simp only [Option.bind_some, List.nil_append]
 rw [if_pos (by omega)]
theorem joinT_ev (n : Int) (l r : List S67) (hl : l.length ≤ 20000) (hr : r.length ≤ 20000) (hp : validB n l = true) (hq : validB n r = true) : Ev (fun k => undo_Join.f k n l n r) (n, l ++ r, 0) := by
 unfold undo_Join.f undo_Valid.f
 simp only [Option.bind_some]
 refine EvC (f := fun k => undo_Join.j0 k (!validB n r) n l n r) ?_ fun k => if_pos hp
 rw [hq]
 refine EvS fun k => ?_
 simp only [undo_Join.j0, Bool.not_true]
 rw [if_neg (by simp), if_pos trivial, show wrap64 ((l.length : Int) + (r.length : Int)) = ((l.length : Int) + (r.length : Int)) by unfold wrap64; omega, if_neg (by omega)]
 unfold slices_Concat_ops.f
 rw [if_pos (by simp; omega)]
 simp
theorem valid_app {n : Int} {l r : List S67} (hl : l.length ≤ 20000) (hr : r.length ≤ 20000) (hp : validB n l = true) (hq : validB n r = true) : validB n (l ++ r) = true := by
 obtain ⟨⟨h1, h2, h3⟩, h4⟩ := validB_all hp
 obtain ⟨_, h5⟩ := validB_all hq
 simp only [validB, Bool.and_eq_true, decide_eq_true_eq, List.all_eq_true]
 refine ⟨⟨h1, h2, by rw [List.length_append]; omega⟩, fun o ho => ?_⟩
 rcases List.mem_append.1 ho with h | h
 ·exact h4 o h
 ·exact h5 o h
theorem runN_app (l r : List S67) (i : Nat) : Giv.runN i (l ++ r) = Giv.runN (Giv.runN i l) r := by
 unfold Giv.runN; rw [List.foldl_append]
theorem joined_l0 {n : Nat} {l : List S67} (r : List S67) (hl : ∀ o ∈ l, rightB (n : Int) o = true) (hn : n ≤ 20) : ∀ (d i : Nat), i + d = 2 ^ n → Ev (fun k => commodatumlaw12_UndoJoined.l0 k (permL n l) (permL n r) (permL n (l ++ r)) (i : Int)) true
 | 0, i, h => by
  refine Ev1 awake_bind fun k => ?_
  simp only [commodatumlaw12_UndoJoined.l0]
  rw [if_neg (by rw [permL_len]; omega)]
 | d + 1, i, h => by
  have hp := pow_le n hn
  have hi : i < 2 ^ n := by omega
  have h2 := (runL_bits l hl hi).2
  refine Ev1 (joined_l0 r hl hn d (i + 1) (by omega)) fun k => ?_
  simp only [commodatumlaw12_UndoJoined.l0]
  rw [if_pos (by rw [permL_len]; omega), if_pos (by omega), permL_get hi, if_neg (by omega), if_neg (by rw [permL_len]; omega), if_pos (by rw [permL_len]; omega), if_pos (by omega), if_pos (by rw [permL_len]; omega), permL_get h2, permL_get hi, runN_app, if_pos rfl, w64 _ (by omega)]
theorem joined_ok {n : Nat} {l r : List S67} (hl : l.length ≤ 20000) (hr : r.length ≤ 20000) (hv : validB n l = true) (hw : validB n r = true) (hn : n ≤ 16) (hc : (1 + (l ++ r).length) * 2 ^ n ≤ 400000) : Ev (fun k => commodatumlaw12_UndoJoined.j0 k false n l n r) true := by
 have hp := pow_le n (by omega)
 have hx : ∀ x : Nat, x ≤ (l ++ r).length → (1 + x) * 2 ^ n ≤ 16777216 := fun x hx => Nat.le_trans (Nat.mul_le_mul_right _ (by omega)) (Nat.le_trans hc (by decide))
 have e0 : Ev (fun k => commodatumlaw12_UndoJoined.j1 k (permL n l) (permL n r) (permL n (l ++ r)) false) true := Ev1 (joined_l0 r (validB_all hv).2 (by omega) (2 ^ n) 0 (by omega)) fun k => rfl
 have fin : Ev (fun k => (undo_Join.f k n l n r).bind fun a => (undo_Permutation.f k n l).bind fun b => (undo_Permutation.f k n r).bind fun c => (undo_Permutation.f k a.1 a.2.1).bind fun d => (if a.2.2 = 0 then (if b.2 = 0 then (if c.2 = 0 then (if d.2 = 0 then (if (0 : Int) ≤ n then (if (b.1.length : Int) = (shl .i64 1 n) then (if (c.1.length : Int) = (b.1.length : Int) then (commodatumlaw12_UndoJoined.j1 k b.1 c.1 d.1 ((d.1.length : Int) != (b.1.length : Int))) else (commodatumlaw12_UndoJoined.j1 k b.1 c.1 d.1 true)) else (commodatumlaw12_UndoJoined.j1 k b.1 c.1 d.1 true)) else (none)) else (commodatumlaw12_UndoJoined.j1 k b.1 c.1 d.1 true)) else (commodatumlaw12_UndoJoined.j1 k b.1 c.1 d.1 true)) else (commodatumlaw12_UndoJoined.j1 k b.1 c.1 d.1 true)) else (commodatumlaw12_UndoJoined.j1 k b.1 c.1 d.1 true))) true := by
  refine Ev.bind (joinT_ev n l r hl hr hv hw) (Ev.bind (permutation_ev hv (by omega) (hx _ (by simp))) (Ev.bind (permutation_ev hw (by omega) (hx _ (by simp))) (Ev.bind (permutation_ev (valid_app hl hr hv hw) (by omega) (hx _ (Nat.le_refl _))) ?_)))
  refine EvC e0 fun k => ?_
  dsimp only
  rw [if_pos rfl, if_pos rfl, if_pos rfl, if_pos rfl, if_pos (by omega), if_pos (by rw [permL_len, pow_int n (by omega)]), if_pos (by rw [permL_len, permL_len]), permL_len, permL_len]
  simp
 refine Ev1 fin fun k => ?_
 simp only [commodatumlaw12_UndoJoined.j0]
 rw [if_neg (by simp), copy_f _ l (by omega), copy_f _ r (by omega)]
 simp only [Option.bind_some]
theorem pure_UndoJoined (n : Int) (l : List S67) (m : Int) (r : List S67) (h : l.length ≤ maxLen) (h2 : r.length ≤ maxLen) : ∃ k, commodatumlaw12_UndoJoined.f k n l m r = some true := by
 have key : Ev (fun k => commodatumlaw12_UndoJoined.f k n l m r) true := by
  unfold commodatumlaw12_UndoJoined.f commodatumlaw12_Wide.f
  simp only [Option.bind_some]
  have one : Ev (fun k => commodatumlaw12_UndoJoined.j0 k true n l m r) true := Ev1 awake_bind fun k => rfl
  by_cases hw : (l.length : Int) > 20000
  ·exact EvC one fun k => by rw [decide_eq_true hw]; rfl
  ·by_cases hw2 : (r.length : Int) > 20000
   ·exact EvC one fun k => by rw [decide_eq_false hw, if_neg (by simp), decide_eq_true hw2]; rfl
   ·have a1 : l.length ≤ 20000 := by omega
    have a2 : r.length ≤ 20000 := by omega
    refine EvC (f := fun k => (commodatumref12_Valid.f k n l).bind fun t116 => (if t116 = true then ((commodatumref12_Valid.f k m r).bind fun t117 => (if t117 = true then (if n = m then (if n > 16 then (commodatumlaw12_UndoJoined.j0 k true n l m r) else ((commodatumref12_Join.f n l m r).bind fun bt118 => ((commodatumref12_Cost.f bt118.1 bt118.2 n).bind fun t122 => (commodatumlaw12_UndoJoined.j0 k (decide (t122 > 400000)) n l m r)))) else (commodatumlaw12_UndoJoined.j0 k true n l m r)) else (commodatumlaw12_UndoJoined.j0 k true n l m r))) else (commodatumlaw12_UndoJoined.j0 k true n l m r))) ?_ fun k => by rw [decide_eq_false hw, if_neg (by simp), decide_eq_false hw2, if_neg (by simp)]
    refine Ev.bind (refValid_ev n l) ?_
    cases hv : validB n l with
    | false => exact EvC one fun k => if_neg (by simp)
    | true =>
     refine EvC (f := fun k => (commodatumref12_Valid.f k m r).bind fun t117 => (if t117 = true then (if n = m then (if n > 16 then (commodatumlaw12_UndoJoined.j0 k true n l m r) else ((commodatumref12_Join.f n l m r).bind fun bt118 => ((commodatumref12_Cost.f bt118.1 bt118.2 n).bind fun t122 => (commodatumlaw12_UndoJoined.j0 k (decide (t122 > 400000)) n l m r)))) else (commodatumlaw12_UndoJoined.j0 k true n l m r)) else (commodatumlaw12_UndoJoined.j0 k true n l m r))) ?_ fun k => if_pos rfl
     refine Ev.bind (refValid_ev m r) ?_
     cases hq : validB m r with
     | false => exact EvC one fun k => if_neg (by simp)
     | true =>
      by_cases e : n = m
      ·subst e
       by_cases hn : n > 16
       ·exact EvC one fun k => by rw [if_pos rfl, if_pos rfl, if_pos hn]
       ·obtain ⟨⟨b1, b2, b3⟩, _⟩ := validB_all hv
        obtain ⟨p, rfl⟩ : ∃ p : Nat, n = p := ⟨n.toNat, by omega⟩
        have hcst := cost_f (n := p) (l := l ++ r) (by omega) (by rw [List.length_append]; omega)
        by_cases hc : ((((1 + (l ++ r).length) * 2 ^ p : Nat) : Int)) > 400000
        ·refine EvC one fun k => ?_
         rw [if_pos rfl, if_pos rfl, if_neg hn, refJoin_g _ _ l r (by omega) (by omega)]
         simp only [Option.bind_some]
         rw [hcst]
         simp only [Option.bind_some]
         rw [decide_eq_true hc]
        ·refine EvC (joined_ok a1 a2 hv hq (by omega) (by omega)) fun k => ?_
         rw [if_pos rfl, if_pos rfl, if_neg hn, refJoin_g _ _ l r (by omega) (by omega)]
         simp only [Option.bind_some]
         rw [hcst]
         simp only [Option.bind_some]
         rw [decide_eq_false hc]
      ·exact EvC one fun k => by rw [if_pos rfl, if_neg e]
 exact key.elim fun k hk => ⟨k, hk k (Nat.le_refl _)⟩
end Go.Proofs.YthfhnkpipdbekaaDoor.Pure
