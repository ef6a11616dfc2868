-- CUT by a program of this session: what the claim does not use is left out
import Derived.Test.YthfhnkpipdbekaaDoorQ10
import Derived.Test.YthfhnkpipdbekaaDoorTux2
namespace Go.Proofs.YthfhnkpipdbekaaDoor.Pure
set_option linter.unusedVariables false
set_option linter.unusedSimpArgs false
open Go.RowKit Go.Proofs.YthfhnkpipdbekaaDoorW.PrintWords Go.Proofs.YthfhnkpipdbekaaDoorW.PrintLast Go.Proofs.YthfhnkpipdbekaaDoorW.PrintMore
open Ua Ta Giv Tb Tu
theorem refInv_l0 (m n : Int) (l : List S67) (hl : l.length < 10000000) : ∀ (d : Nat) (x : List S67), d ≤ l.length → x = l.reverse.take (l.length - d) → Ev (fun k => commodatumref12_Inverse.l0 k ((d : Int) - 1) n l m x) (m, l.reverse)
 | 0, x, hd, hx => by
  refine EvS fun k => ?_
  simp only [commodatumref12_Inverse.l0]
  rw [if_neg (by omega), hx, List.take_of_length_le (by simp)]
 | d + 1, x, hd, hx => by
  have hxl : x.length ≤ l.length := by rw [hx, List.length_take, List.length_reverse]; omega
  have e0 : rd_T67 l (((d + 1 : Nat) : Int) - 1) = l[d]'(by omega) := by
   unfold rd_T67; rw [show (((d + 1 : Nat) : Int) - 1).toNat = d by omega, List.getD_eq_getElem?_getD, List.getElem?_eq_getElem (by omega)]; rfl
  have e1 : x ++ [l[d]'(by omega)] = l.reverse.take (l.length - d) := by
   rw [show l.length - d = (l.length - (d + 1)) + 1 by omega, List.take_succ_eq_append_getElem (by simp; omega), ← hx, List.getElem_reverse]
   congr 2
   congr 1
   omega
  have ih := refInv_l0 m n l hl d (x ++ [l[d]'(by omega)]) (by omega) e1
  refine Ev1 ih fun k => ?_
  simp only [commodatumref12_Inverse.l0]
  rw [if_pos (by omega), if_pos (by omega), if_pos (by omega), if_pos (by omega), e0]
  rw [show wrap64 (((d + 1 : Nat) : Int) - 1 - 1) = (d : Int) - 1 by unfold wrap64; omega]
theorem refInv_ev (n : Int) (l : List S67) (hl : l.length < 10000000) : Ev (fun k => commodatumref12_Inverse.f k n l) (n, l.reverse) := by
 unfold commodatumref12_Inverse.f
 rw [show wrap64 ((l.length : Int) - 1) = (l.length : Int) - 1 by unfold wrap64; omega]
 exact refInv_l0 n n l hl l.length [] (by omega) (by simp)
theorem refJoin_f (n m : Int) (l r : List S67) (hl : l.length < 10000000) (hr : r.length < 10000000) : commodatumref12_Join.f n l m r = some (n, l ++ r) := by
 unfold commodatumref12_Join.f
 simp only [Option.bind_some]
 rw [if_pos (by simp; omega)]
 simp only [Option.bind_some, List.nil_append]
 rw [if_pos (by omega)]
def joinQ (n : Int) (l : List S67) (m : Int) (r : List S67) : Int × List S67 × Int :=
 if validB n l = true ∧ validB m r = true then (if n = m then (n, l ++ r, 0) else (0, [], 2)) else (0, [], 1)
theorem join_ev (n m : Int) (l r : List S67) (hl : l.length ≤ 20000) (hr : r.length ≤ 20000) : Ev (fun k => undo_Join.f k n l m r) (joinQ n l m r) := by
 unfold undo_Join.f undo_Valid.f joinQ
 simp only [Option.bind_some]
 have bad : Ev (fun k => undo_Join.j0 k true n l m r) ((0, [], 1) : Int × List S67 × Int) := EvS fun k => by simp [undo_Join.j0]
 by_cases hp : validB n l = true
 ·by_cases hq : validB m r = true
  ·rw [if_pos ⟨hp, hq⟩]
   refine EvC (f := fun k => undo_Join.j0 k (!validB m r) n l m r) ?_ fun k => if_pos hp
   rw [hq]
   refine EvS fun k => ?_
   simp only [undo_Join.j0, Bool.not_true]
   rw [if_neg (by simp)]
   by_cases e : n = m
   ·rw [if_pos e, if_pos e, show wrap64 ((l.length : Int) + (r.length : Int)) = ((l.length : Int) + (r.length : Int)) by unfold wrap64; omega, if_neg (by omega)]
    unfold slices_Concat_ops.f
    rw [if_pos (by simp; omega)]
    simp
   ·rw [if_neg e, if_neg e]
  ·rw [if_neg (fun h => hq h.2)]
   refine EvC (f := fun k => undo_Join.j0 k (!validB m r) n l m r) ?_ fun k => if_pos hp
   rw [Bool.eq_false_iff.2 hq]; exact bad
 ·rw [if_neg (fun h => hp h.1)]
  exact EvC bad fun k => if_neg hp
def invQ (n : Int) (l : List S67) : Int × List S67 × Int := if validB n l = true then (n, l.reverse, 0) else (0, [], 1)
theorem invQ_ev (n : Int) (l : List S67) : Ev (fun k => undo_Inverse.f k n l) (invQ n l) := by
 unfold invQ
 by_cases hv : validB n l = true
 ·rw [if_pos hv]; exact inverse_ev hv
 ·rw [if_neg hv]
  unfold undo_Inverse.f undo_Valid.f
  simp only [Option.bind_some]
  exact EvC (Ev.now _) fun k => if_neg hv
def runQ (n : Int) (l : List S67) (x : List Bool) : List Bool × Int := if validB n l = true then (if (x.length : Int) = n then (runL x l, 0) else ([], 2)) else ([], 1)
theorem runs_j2 (n m : Int) (l r : List S67) (x : List Bool) (hl : l.length ≤ 20000) (hr : r.length ≤ 20000) (hx : x.length ≤ 2000) {y : List Bool} {e1 e2 e3 n1 n2 : Int} {l1 l2 : List S67}
  (h1 : runQ n l x = (y, e1)) (h2 : invQ n l = (n1, l1, e2)) (h3 : joinQ n l m r = (n2, l2, e3)) :
  Ev (fun k => commodatumlaw12_UndoRuns.j2 k x y e1 e2 e3 n l m r n1 l1 n2 l2) true := by
 have hy : y.length < 10000000 := by
  have : y = (runQ n l x).1 := by rw [h1]
  rw [this]; unfold runQ
  split
  ·split
   ·show (runL x l).length < _; rw [runL_len]; omega
   ·show 0 < _; omega
  ·show 0 < _; omega
 have hl1 : l1.length < 10000000 := by
  have : l1 = (invQ n l).2.1 := by rw [h2]
  rw [this]; unfold invQ
  split
  ·show l.reverse.length < _; rw [List.length_reverse]; omega
  ·show 0 < _; omega
 have hl2 : l2.length < 10000000 := by
  have : l2 = (joinQ n l m r).2.1 := by rw [h3]
  rw [this]; unfold joinQ
  split
  ·split
   ·show (l ++ r).length < _; rw [List.length_append]; omega
   ·show 0 < _; omega
  ·show 0 < _; omega
 have i := invQ_ev n l
 have j := join_ev n m l r hl hr
 rw [h2] at i
 rw [h3] at j
 have fin : Ev (fun k => (commodatumref12_Equal.f k y y).bind fun t170 => (if t170 = true then ((commodatumref12_Same.f k n1 l1 n1 l1).bind fun t171 => (if t171 = true then ((commodatumref12_Same.f k n2 l2 n2 l2).bind fun t172 => (if t172 = true then ((commodatumlaw12_Awake.f k).bind fun t173 => (some t173)) else (none))) else (none))) else (none))) true := by
  refine Ev.bind (refEqual_ev y hy) ?_
  refine EvC (f := fun k => (commodatumref12_Same.f k n1 l1 n1 l1).bind fun t171 => (if t171 = true then ((commodatumref12_Same.f k n2 l2 n2 l2).bind fun t172 => (if t172 = true then ((commodatumlaw12_Awake.f k).bind fun t173 => (some t173)) else (none))) else (none))) ?_ fun k => if_pos rfl
  refine Ev.bind (refSame_ev n1 l1 hl1) ?_
  refine EvC (f := fun k => (commodatumref12_Same.f k n2 l2 n2 l2).bind fun t172 => (if t172 = true then ((commodatumlaw12_Awake.f k).bind fun t173 => (some t173)) else (none))) ?_ fun k => if_pos rfl
  refine Ev.bind (refSame_ev n2 l2 hl2) ?_
  exact EvC awake_bind fun k => if_pos rfl
 have key : Ev (fun k => (undo_Inverse.f k n l).bind fun b => (undo_Join.f k n l m r).bind fun c => (commodatumref12_Equal.f k y y).bind fun t170 => (if t170 = true then (if b.2.2 = e2 then ((commodatumref12_Same.f k b.1 b.2.1 n1 l1).bind fun t171 => (if t171 = true then (if c.2.2 = e3 then ((commodatumref12_Same.f k c.1 c.2.1 n2 l2).bind fun t172 => (if t172 = true then ((commodatumlaw12_Awake.f k).bind fun t173 => (some t173)) else (none))) else (none)) else (none))) else (none)) else (none))) true := by
  refine Ev.bind i (Ev.bind j ?_)
  exact EvC fin fun k => by simp only [if_true]
 refine Ev1 key fun k => ?_
 simp only [commodatumlaw12_UndoRuns.j2]
 rw [copy_f n l (by omega), copy_f m r (by omega)]
 simp only [Option.bind_some, List.nil_append, List.length_nil]
 rw [if_pos (by omega)]
 have hR : undo_Run.f n l x = some (y, e1) := by rw [← h1]; rfl
 rw [hR]
 simp only [Option.bind_some, if_true]
theorem runs_j1 (n m : Int) (l r : List S67) (x : List Bool) (hl : l.length ≤ 20000) (hr : r.length ≤ 20000) (hx : x.length ≤ 2000) (hv : validB n l = true) {y : List Bool} {e1 e2 n1 : Int} {l1 : List S67}
  (h1 : runQ n l x = (y, e1)) (h2 : invQ n l = (n1, l1, e2)) :
  Ev (fun k => commodatumlaw12_UndoRuns.j1 k x y e1 e2 1 n l m r n1 l1 0) true := by
 refine Ev1 (f := fun k => (commodatumref12_Valid.f k m r).bind fun t127 => (if t127 = true then (if n = m then ((commodatumref12_Join.f n l m r).bind fun bt128 => (commodatumlaw12_UndoRuns.j2 k x y e1 e2 0 n l m r n1 l1 bt128.1 bt128.2)) else (commodatumlaw12_UndoRuns.j2 k x y e1 e2 2 n l m r n1 l1 0 ([] : List (S67)))) else (commodatumlaw12_UndoRuns.j2 k x y e1 e2 1 n l m r n1 l1 0 ([] : List (S67))))) ?_ fun k => rfl
 refine Ev.bind (refValid_ev m r) ?_
 cases hq : validB m r with
 | false => exact EvC (runs_j2 n m l r x hl hr hx h1 h2 (by unfold joinQ; rw [if_neg (by simp [hq])])) fun k => if_neg (by simp)
 | true =>
  by_cases e : n = m
  ·refine EvC (runs_j2 n m l r x hl hr hx h1 h2 (n2 := n) (l2 := l ++ r) (e3 := 0) (by unfold joinQ; rw [if_pos ⟨hv, hq⟩, if_pos e])) fun k => ?_
   rw [if_pos rfl, if_pos e, refJoin_f n m l r (by omega) (by omega)]; rfl
  ·refine EvC (runs_j2 n m l r x hl hr hx h1 h2 (n2 := 0) (l2 := []) (e3 := 2) (by unfold joinQ; rw [if_pos ⟨hv, hq⟩, if_neg e])) fun k => ?_
   rw [if_pos rfl, if_neg e]
theorem runs_j0 (n m : Int) (l r : List S67) (x : List Bool) (hl : l.length ≤ 20000) (hr : r.length ≤ 20000) (hx : x.length ≤ 2000) :
  Ev (fun k => commodatumlaw12_UndoRuns.j0 k x false n l m r) true := by
 refine Ev1 (f := fun k => (commodatumref12_Valid.f k n l).bind fun t119 => (if t119 = true then ((commodatumref12_Inverse.f k n l).bind fun bt120 => (if (x.length : Int) = n then ((commodatumref12_Run.f k n l x).bind fun t124 => (commodatumlaw12_UndoRuns.j1 k x t124 0 0 1 n l m r bt120.1 bt120.2 0)) else (commodatumlaw12_UndoRuns.j1 k x ([] : List Bool) 2 0 1 n l m r bt120.1 bt120.2 0))) else (commodatumlaw12_UndoRuns.j2 k x ([] : List Bool) 1 1 1 n l m r 0 ([] : List (S67)) 0 ([] : List (S67))))) ?_ fun k => by simp only [commodatumlaw12_UndoRuns.j0]; rw [if_neg (by simp)]
 refine Ev.bind (refValid_ev n l) ?_
 cases hv : validB n l with
 | false =>
  exact EvC (runs_j2 n m l r x hl hr hx (y := []) (e1 := 1) (n1 := 0) (l1 := []) (e2 := 1) (n2 := 0) (l2 := []) (e3 := 1) (by unfold runQ; rw [if_neg (by simp [hv])]) (by unfold invQ; rw [if_neg (by simp [hv])]) (by unfold joinQ; rw [if_neg (by simp [hv])])) fun k => if_neg (by simp)
 | true =>
  refine EvC (f := fun k => (commodatumref12_Inverse.f k n l).bind fun bt120 => (if (x.length : Int) = n then ((commodatumref12_Run.f k n l x).bind fun t124 => (commodatumlaw12_UndoRuns.j1 k x t124 0 0 1 n l m r bt120.1 bt120.2 0)) else (commodatumlaw12_UndoRuns.j1 k x ([] : List Bool) 2 0 1 n l m r bt120.1 bt120.2 0))) ?_ fun k => if_pos rfl
  refine Ev.bind (refInv_ev n l (by omega)) ?_
  have h2 : invQ n l = (n, l.reverse, 0) := by unfold invQ; rw [if_pos hv]
  by_cases e : (x.length : Int) = n
  ·refine EvC (f := fun k => (commodatumref12_Run.f k n l x).bind fun t124 => (commodatumlaw12_UndoRuns.j1 k x t124 0 0 1 n l m r n l.reverse 0)) ?_ fun k => if_pos e
   have hr' : ∀ o ∈ l, rightB x.length o = true := fun o ho => by rw [e]; exact (validB_all hv).2 o ho
   refine Ev.bind (refRun_ev n (by omega) (by omega) hr') ?_
   exact runs_j1 n m l r x hl hr hx hv (by unfold runQ; rw [if_pos hv, if_pos e]) h2
  ·exact EvC (runs_j1 n m l r x hl hr hx hv (y := []) (e1 := 2) (by unfold runQ; rw [if_pos hv, if_neg e]) h2) fun k => if_neg e
theorem pure_UndoRuns (n : Int) (l : List S67) (m : Int) (r : List S67) (x : List Bool) (h : l.length ≤ maxLen) (h2 : r.length ≤ maxLen) (h3 : x.length ≤ maxLen) : ∃ k, commodatumlaw12_UndoRuns.f k n l m r x = some true := by
 have key : Ev (fun k => commodatumlaw12_UndoRuns.f k n l m r x) true := by
  unfold commodatumlaw12_UndoRuns.f commodatumlaw12_Wide.f
  simp only [Option.bind_some]
  have one : Ev (fun k => commodatumlaw12_UndoRuns.j0 k x true n l m r) true := Ev1 awake_bind fun k => rfl
  by_cases hw : (l.length : Int) > 20000
  ·exact EvC one fun k => by rw [decide_eq_true hw]; rfl
  ·by_cases hw2 : (r.length : Int) > 20000
   ·exact EvC one fun k => by rw [decide_eq_false hw, if_neg (by simp), decide_eq_true hw2]; rfl
   ·by_cases hx : (x.length : Int) > 2000
    ·exact EvC one fun k => by rw [decide_eq_false hw, if_neg (by simp), decide_eq_false hw2, if_neg (by simp), decide_eq_true hx]
    ·exact EvC (runs_j0 n m l r x (by omega) (by omega) (by omega)) fun k => by rw [decide_eq_false hw, if_neg (by simp), decide_eq_false hw2, if_neg (by simp), decide_eq_false hx]
 exact key.elim fun k hk => ⟨k, hk k (Nat.le_refl _)⟩
end Go.Proofs.YthfhnkpipdbekaaDoor.Pure
