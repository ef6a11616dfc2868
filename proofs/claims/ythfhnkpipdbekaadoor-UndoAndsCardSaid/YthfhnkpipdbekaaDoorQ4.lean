-- CUT by a program of this session: what the claim does not use is left out
import Derived.Test.YthfhnkpipdbekaaDoorQ2
import Derived.Test.YthfhnkpipdbekaaDoorTax13
import Derived.Test.YthfhnkpipdbekaaDoorUax0
import Derived.Test.YthfhnkpipdbekaaDoorProg
import Derived.Below
import Derived.Deep.Draws
import Derived.Deep.AppendLies
import Derived.Maps.AppendAt
import Derived.OwnWalk
import Derived.Laws.BytesArg
import Derived.Laws.MakeOwn
import Derived.Laws.OwnMore
import Derived.Deep.OwnRows
import Derived.Tactics
import Derived.Lib.ConvBytes
import Derived.Laws.Slices
import Derived.WalkKit
import Derived.KernelRfl
import Derived.RowKit3
import Derived.Deep.LoopGhost
import Derived.Deep.QuietTactic
import Derived.BigQuiet
import Derived.WideLaws
import Derived.Deep.DeepCutAuto
import Derived.Deep.CutBlock
import Derived.Deep.RegionHeld3
import Derived.Laws.Rows
import Derived.Lib.AppendStr
import Derived.ArgAppend
import Derived.Laws.IdiomCopy
import Derived.OrdersHeld
import Derived.Laws.BitsLemmas
import Derived.RowKit
import Derived.Test.YthfhnkpipdbekaaDoorN6
import Derived.Test.YthfhnkpipdbekaaDoorWAll
import Derived.Test.YthfhnkpipdbekaaDoorTax1
import Derived.Test.YthfhnkpipdbekaaDoorTax5
namespace Go.Proofs.YthfhnkpipdbekaaDoor.Pure
set_option linter.unusedVariables false
set_option linter.unusedSimpArgs false
open Go.RowKit Go.Proofs.YthfhnkpipdbekaaDoorW.PrintWords Go.Proofs.YthfhnkpipdbekaaDoorW.PrintLast Go.Proofs.YthfhnkpipdbekaaDoorW.PrintMore
open Ua Ta Giv
theorem w64 (i : Nat) (h : i < 100000000) : wrap64 ((i : Int) + 1) = ((i + 1 : Nat) : Int) := by unfold wrap64; omega
theorem Ev1 {α : Type} {g f : Nat → Option α} {r : α} (k : Ev f r) (h : ∀ k, g (k + 1) = f k) : Ev g r := Ev.step h k
theorem EvC {α : Type} {g f : Nat → Option α} {r : α} (k : Ev f r) (h : ∀ k, g k = f k) : Ev g r := Ev.congr h k
theorem EvS {α : Type} {g : Nat → Option α} {r : α} (h : ∀ k, g (k + 1) = some r) : Ev g r := Ev.step h (Ev.now r)
theorem EvSome {α : Type} {g : Nat → Option α} {r : α} (h : ∀ k, g k = some r) : Ev g r := ⟨0, fun k _ => h k⟩
theorem w1 : wrap64 (0 + 1) = 1 := by decide +kernel
theorem w2 : wrap64 (1 + 1) = 2 := by decide +kernel
theorem w3 : wrap64 (2 + 1) = 3 := by decide +kernel
theorem rd_at (x : List Int) (i : Nat) (h : i < x.length) : rd x (i : Int) = x[i] := by
 simp [rd, List.getD_eq_getElem?_getD, List.getElem?_eq_getElem h]
theorem op_l1 (b nf : Int) (x : List Int) (i : Nat) (hi : i < x.length) (hn : x.length = 3) (r : Bool) (hr : Ev (fun k => commodatumref12_op.l0 k b nf x ((i + 1 : Nat) : Int)) r) :
  ∀ d j, j + d = i → Ev (fun k => commodatumref12_op.l1 k b nf x i j) (if (i : Int) < nf ∧ x[i] ∈ (x.take i).drop j then false else r)
 | 0, j, h => by
  obtain rfl : j = i := by omega
  have e : (x.take j).drop j = [] := by simp
  rw [e, if_neg (by simp)]
  refine Ev1 (f := fun k => commodatumref12_op.j3 k b nf x j j false) ?_ fun k => ?_
  ·refine Ev1 hr fun k => ?_
   simp only [commodatumref12_op.j3]
   rw [if_neg (by simp), w64 _ (by omega)]
  ·simp only [commodatumref12_op.l1]
   rw [if_neg (by omega)]
 | d + 1, j, h => by
  have ej : (x.take i).drop j = x[j] :: (x.take i).drop (j + 1) := by
   rw [List.drop_eq_getElem_cons (by simp; omega)]; simp
  rw [ej]
  by_cases hnf : (i : Int) < nf
  ·refine Ev1 (f := fun k => commodatumref12_op.j3 k b nf x i j true) ?_ fun k => ?_
   ·by_cases hx : x[j] = x[i]
    ·rw [if_pos ⟨hnf, by simp [hx]⟩]
     refine EvS fun k => ?_
     simp only [commodatumref12_op.j3]
     rw [if_pos trivial, if_pos (by omega), if_pos (by omega), if_pos (by omega), if_pos (by omega), rd_at _ _ (by omega), rd_at _ _ (by omega), if_pos hx]
    ·have ih := op_l1 b nf x i hi hn r hr d (j + 1) (by omega)
     have e2 : (x[i] ∈ x[j] :: (x.take i).drop (j + 1)) = (x[i] ∈ (x.take i).drop (j + 1)) := by
      rw [eq_iff_iff, List.mem_cons]; exact ⟨fun h => h.elim (fun h => absurd h.symm hx) id, .inr⟩
     simp only [e2]
     refine Ev1 ih fun k => ?_
     simp only [commodatumref12_op.j3]
     rw [if_pos trivial, if_pos (by omega), if_pos (by omega), if_pos (by omega), if_pos (by omega), rd_at _ _ (by omega), rd_at _ _ (by omega), if_neg hx, w64 _ (by omega)]
   ·simp only [commodatumref12_op.l1]
    rw [if_pos (by omega), decide_eq_true hnf]
  ·rw [if_neg (fun h => hnf h.1)]
   refine Ev1 (f := fun k => commodatumref12_op.j3 k b nf x i j false) ?_ fun k => ?_
   ·refine Ev1 hr fun k => ?_
    simp only [commodatumref12_op.j3]
    rw [if_neg (by simp), w64 _ (by omega)]
   ·simp only [commodatumref12_op.l1]
    rw [if_pos (by omega), decide_eq_false hnf]
def okAt (b nf : Int) (x : List Int) (i : Nat) : Bool := if (i : Int) < nf then decide (0 ≤ x.getD i 0 ∧ x.getD i 0 < b) && decide (x.getD i 0 ∉ x.take i) else decide (x.getD i 0 = 0)
theorem op_l0 (b nf : Int) (x : List Int) (hn : x.length = 3) (i : Nat) (hi : i < 3) (r : Bool) (hr : Ev (fun k => commodatumref12_op.l0 k b nf x ((i + 1 : Nat) : Int)) r) : Ev (fun k => commodatumref12_op.l0 k b nf x (i : Int)) (okAt b nf x i && r) := by
 have hi2 : i < x.length := by omega
 have eg : x.getD i 0 = x[i] := by simp [List.getD_eq_getElem?_getD, List.getElem?_eq_getElem hi2]
 have hl := op_l1 b nf x i hi2 hn r hr i 0 (by omega)
 rw [List.drop_zero] at hl
 unfold okAt
 rw [eg]
 by_cases hnf : (i : Int) < nf
 ·rw [if_pos hnf]
  by_cases h0 : x[i] < 0
  ·rw [decide_eq_false (by omega), Bool.false_and, Bool.false_and]
   refine Ev1 (f := fun k => commodatumref12_op.j1 k b nf x i true) (EvS fun k => rfl) fun k => ?_
   simp only [commodatumref12_op.l0]
   rw [if_pos (by omega), if_neg (by omega), if_pos hnf, if_pos (by omega), if_pos (by omega), rd_at _ _ hi2, if_pos h0]
  ·by_cases h1 : x[i] ≥ b
   ·rw [decide_eq_false (by omega), Bool.false_and, Bool.false_and]
    refine Ev1 (f := fun k => commodatumref12_op.j1 k b nf x i true) (EvS fun k => rfl) fun k => ?_
    simp only [commodatumref12_op.l0]
    rw [if_pos (by omega), if_neg (by omega), if_pos hnf, if_pos (by omega), if_pos (by omega), rd_at _ _ hi2, if_neg h0, decide_eq_true h1]
   ·have e : (decide (0 ≤ x[i] ∧ x[i] < b) && decide (x[i] ∉ x.take i) && r) = (if (i : Int) < nf ∧ x[i] ∈ x.take i then false else r) := by
     rw [decide_eq_true (by omega), Bool.true_and]
     by_cases hm : x[i] ∈ x.take i
     ·rw [if_pos ⟨hnf, hm⟩, decide_eq_false (by simpa using hm), Bool.false_and]
     ·rw [if_neg (fun h => hm h.2), decide_eq_true hm, Bool.true_and]
    rw [e]
    refine Ev1 (f := fun k => commodatumref12_op.j1 k b nf x i false) (Ev1 hl fun k => rfl) fun k => ?_
    simp only [commodatumref12_op.l0]
    rw [if_pos (by omega), if_neg (by omega), if_pos hnf, if_pos (by omega), if_pos (by omega), rd_at _ _ hi2, if_neg h0, decide_eq_false h1]
 ·rw [if_neg hnf]
  by_cases h0 : x[i] = 0
  ·rw [decide_eq_true h0, Bool.true_and]
   rw [if_neg (fun h => hnf h.1)] at hl
   refine Ev1 (f := fun k => commodatumref12_op.j1 k b nf x i false) (Ev1 hl fun k => rfl) fun k => ?_
   simp only [commodatumref12_op.l0]
   rw [if_pos (by omega), if_pos (by omega), if_pos (by omega), if_pos (by omega), rd_at _ _ hi2, if_pos h0, if_neg hnf]
  ·rw [decide_eq_false h0, Bool.false_and]
   refine Ev1 (f := fun k => commodatumref12_op.j1 k b nf x i true) (EvS fun k => rfl) fun k => ?_
   simp only [commodatumref12_op.l0]
   rw [if_pos (by omega), if_pos (by omega), if_pos (by omega), if_pos (by omega), rd_at _ _ hi2, if_neg h0]
theorem op_all (b nf : Int) (x : List Int) (hn : x.length = 3) : Ev (fun k => commodatumref12_op.l0 k b nf x 0) (okAt b nf x 0 && (okAt b nf x 1 && (okAt b nf x 2 && decide (nf > 0)))) := by
 refine op_l0 b nf x hn 0 (by omega) _ (op_l0 b nf x hn 1 (by omega) _ (op_l0 b nf x hn 2 (by omega) _ ?_))
 refine EvS fun k => ?_
 simp only [commodatumref12_op.l0]
 rw [if_neg (by omega)]
theorem fields_f (k : Int) : Ev (fun r => commodatumref12_fields.f r k) (if k = 0 then 1 else if k = 1 ∨ k = 3 then 2 else if k = 2 then 3 else 0) := by
 unfold commodatumref12_fields.f
 by_cases k0 : k = 0
 ·refine EvSome fun r => ?_
  rw [if_pos k0, if_pos k0]
 ·rw [if_neg k0]
  by_cases k1 : k = 1
  ·rw [if_pos (.inl k1)]
   refine EvC (f := fun r => commodatumref12_fields.j0 r k true) (EvS fun r => rfl) fun r => ?_
   rw [if_neg k0, if_pos k1, k1]; rfl
  ·by_cases k3 : k = 3
   ·rw [if_pos (.inr k3)]
    refine EvC (f := fun r => commodatumref12_fields.j0 r k true) (EvS fun r => rfl) fun r => ?_
    rw [if_neg k0, if_neg k1, k3]; rfl
   ·rw [if_neg (by omega)]
    refine EvC (f := fun r => commodatumref12_fields.j0 r k false) (EvS fun r => ?_) fun r => ?_
    ·simp only [commodatumref12_fields.j0]
     rw [if_neg (by simp)]; split <;> rfl
    ·rw [if_neg k0, if_neg k1, beq_eq_false_iff_ne.2 k3]
theorem op_ev (k a b c n : Int) : Ev (fun r => commodatumref12_op.f r k a b c n) (rightB n ⟨k, a, b, c⟩) := by
 unfold commodatumref12_op.f
 refine Ev.bind (fields_f k) ?_
 have h := op_all n (if k = 0 then 1 else if k = 1 ∨ k = 3 then 2 else if k = 2 then 3 else 0) [a, b, c] rfl
 have e : (okAt n (if k = 0 then 1 else if k = 1 ∨ k = 3 then 2 else if k = 2 then 3 else 0) [a, b, c] 0 && (okAt n (if k = 0 then 1 else if k = 1 ∨ k = 3 then 2 else if k = 2 then 3 else 0) [a, b, c] 1 && (okAt n (if k = 0 then 1 else if k = 1 ∨ k = 3 then 2 else if k = 2 then 3 else 0) [a, b, c] 2 && decide ((if k = 0 then 1 else if k = 1 ∨ k = 3 then 2 else if k = 2 then 3 else 0) > (0 : Int))))) = rightB n ⟨k, a, b, c⟩ := by
  unfold rightB
  dsimp only
  by_cases k0 : k = 0
  ·simp only [if_pos k0]
   rw [Bool.eq_iff_iff]
   simp [okAt, inB, and_assoc]
  ·simp only [if_neg k0]
   by_cases k1 : k = 1 ∨ k = 3
   ·simp only [if_pos k1]
    rw [Bool.eq_iff_iff]
    simp [okAt, inB]
    omega
   ·simp only [if_neg k1]
    by_cases k2 : k = 2
    ·simp only [if_pos k2]
     rw [Bool.eq_iff_iff]
     simp [okAt, inB]
     omega
    ·simp only [if_neg k2]
     simp
 rw [e] at h
 exact h
theorem rdT_at (l : List S67) (i : Nat) (h : i < l.length) : rd_T67 l (i : Int) = l[i] := by
 simp [rd_T67, List.getD_eq_getElem?_getD, List.getElem?_eq_getElem h]
theorem valid_l0 (n : Int) (l : List S67) (hl : l.length ≤ 200000) : ∀ d i, i + d = l.length → Ev (fun k => commodatumref12_Valid.l0 k (i : Int) n l) ((l.drop i).all (rightB n))
 | 0, i, h => by
  rw [List.drop_eq_nil_of_le (by omega)]
  refine EvS fun k => ?_
  simp only [commodatumref12_Valid.l0]
  rw [if_neg (by omega)]; rfl
 | d + 1, i, h => by
  have hi : i < l.length := by omega
  have ih := valid_l0 n l hl d (i + 1) (by omega)
  rw [List.drop_eq_getElem_cons hi, List.all_cons]
  have ho := op_ev l[i].f0 l[i].f1 l[i].f2 l[i].f3 n
  refine Ev1 (f := fun k => (commodatumref12_op.f k l[i].f0 l[i].f1 l[i].f2 l[i].f3 n).bind fun t => if t = true then commodatumref12_Valid.l0 k ((i + 1 : Nat) : Int) n l else some false) ?_ fun k => ?_
  ·refine Ev.bind ho ?_
   cases hr : rightB n l[i] with
   | true => rw [Bool.true_and]; exact EvC ih (fun k => by rw [if_pos rfl])
   | false => rw [Bool.false_and]; exact EvSome fun k => by rw [if_neg (by simp)]
  ·simp only [commodatumref12_Valid.l0]
   rw [if_pos (by omega), if_pos (by omega), rdT_at _ _ hi, w64 _ (by omega)]
theorem refValid_ev (n : Int) (l : List S67) : Ev (fun k => commodatumref12_Valid.f k n l) (validB n l) := by
 unfold commodatumref12_Valid.f
 by_cases h1 : n < 1
 ·rw [validB, decide_eq_false (p := 1 ≤ n ∧ n ≤ 1024 ∧ l.length ≤ 200000) (fun h => by omega), Bool.false_and]
  exact EvC (f := fun k => commodatumref12_Valid.j0 k true n l) (EvS fun k => rfl) (fun k => by rw [if_pos h1])
 ·by_cases h2 : n > 1024
  ·rw [validB, decide_eq_false (p := 1 ≤ n ∧ n ≤ 1024 ∧ l.length ≤ 200000) (fun h => by omega), Bool.false_and]
   exact EvC (f := fun k => commodatumref12_Valid.j0 k true n l) (EvS fun k => rfl) (fun k => by rw [if_neg h1, if_pos h2])
  ·by_cases h3 : (l.length : Int) > 200000
   ·rw [validB, decide_eq_false (p := 1 ≤ n ∧ n ≤ 1024 ∧ l.length ≤ 200000) (fun h => by omega), Bool.false_and]
    exact EvC (f := fun k => commodatumref12_Valid.j0 k true n l) (EvS fun k => rfl) (fun k => by rw [if_neg h1, if_neg h2, decide_eq_true h3])
   ·rw [validB, decide_eq_true (p := 1 ≤ n ∧ n ≤ 1024 ∧ l.length ≤ 200000) (by omega), Bool.true_and]
    have := valid_l0 n l (by omega) l.length 0 (by omega)
    rw [List.drop_zero] at this
    exact EvC (f := fun k => commodatumref12_Valid.j0 k false n l) (Ev1 this fun k => rfl) (fun k => by rw [if_neg h1, if_neg h2, decide_eq_false h3])
theorem rdb_at (x : List Bool) (i : Nat) (h : i < x.length) : rdOf false x (i : Int) = x[i] := by
 simp [rdOf, List.getD_eq_getElem?_getD, List.getElem?_eq_getElem h]
end Go.Proofs.YthfhnkpipdbekaaDoor.Pure
