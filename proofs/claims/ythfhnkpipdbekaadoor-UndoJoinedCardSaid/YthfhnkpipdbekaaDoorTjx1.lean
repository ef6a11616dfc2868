-- CUT by a program of this session: what the claim does not use is left out
import Derived.Test.YthfhnkpipdbekaaDoorUax0
import Derived.Test.YthfhnkpipdbekaaDoorProg
import Derived.Below
import Derived.Deep.Draws
import Derived.Deep.AppendLies
import Derived.Maps.AppendAt
import Derived.OwnWalk
import Derived.Laws.BytesArg
import Derived.Laws.MakeOwn
import Derived.Laws.OwnMore
import Derived.Deep.OwnRows
import Derived.Tactics
import Derived.Lib.ConvBytes
import Derived.Laws.Slices
import Derived.WalkKit
import Derived.KernelRfl
import Derived.RowKit3
import Derived.Deep.LoopGhost
import Derived.Deep.QuietTactic
import Derived.BigQuiet
import Derived.WideLaws
import Derived.Deep.DeepCutAuto
import Derived.Deep.CutBlock
import Derived.Deep.RegionHeld3
import Derived.Laws.Rows
import Derived.Lib.AppendStr
import Derived.ArgAppend
import Derived.Laws.IdiomCopy
import Derived.OrdersHeld
import Derived.Laws.BitsLemmas
import Derived.RowKit
import Derived.Test.YthfhnkpipdbekaaDoorN12
import Derived.Test.YthfhnkpipdbekaaDoorN6
import Derived.Test.YthfhnkpipdbekaaDoorWAll
import Derived.Test.YthfhnkpipdbekaaDoorTax5
import Derived.Test.YthfhnkpipdbekaaDoorTax12
import Derived.Test.YthfhnkpipdbekaaDoorTax13
import Derived.Test.YthfhnkpipdbekaaDoorTax2
import Derived.Test.YthfhnkpipdbekaaDoorTax3
import Derived.Test.YthfhnkpipdbekaaDoorTax4
import Derived.Test.YthfhnkpipdbekaaDoorTxx1
import Derived.Test.YthfhnkpipdbekaaDoorTxx2
import Derived.Test.YthfhnkpipdbekaaDoorTbx1
import Derived.Test.YthfhnkpipdbekaaDoorN15
namespace Go.Proofs.YthfhnkpipdbekaaDoor.Tj
open Go.Proofs.YthfhnkpipdbekaaDoor.Ua
open Go.Proofs.YthfhnkpipdbekaaDoor.Giv
open Go.Proofs.YthfhnkpipdbekaaDoor.Ta (undo_enumerable.f undo_enumerable.calls undo_final.f undo_final.calls undo_final.mono undo_Dirty.f undo_Dirty.calls undo_Dirty.mono undo_Inverse.f undo_Inverse.mono undo_Permutation.f undo_Permutation.calls undo_Permutation.mono undo_Restores.f undo_Restores.mono commodatumref12_op.f commodatumref12_op.calls commodatumref12_Cost.f commodatumref12_Cost.calls commodatumref12_Valid.f commodatumref12_Valid.calls commodatumlaw12_Copy.f commodatumlaw12_Copy.calls commodatumref12_Join.f commodatumref12_Join.calls commodatumref12_Equal.f commodatumref12_Equal.calls commodatumref12_Equal.mono)
open Go.Proofs.YthfhnkpipdbekaaDoor.Tx (slices_Index_string_string.f slices_Index_string_string.calls slices_Index_string_string.mono undo_numbers.f undo_numbers.mono)
open Go.Proofs.YthfhnkpipdbekaaDoor.Ui (bits_Input.f bits_Input.calls bits_Input.mono slices_Equal_bool_bool.f slices_Equal_bool_bool.calls slices_Equal_bool_bool.mono)
open Go.Proofs.YthfhnkpipdbekaaDoor.Tb (commodatumlaw12_Awake.f commodatumlaw12_Awake.calls commodatumlaw12_Awake.mono commodatumlaw12_Wide.f commodatumlaw12_Wide.calls)
open Go.RowKit Go.Proofs.YthfhnkpipdbekaaDoorW.PrintWords Go.Proofs.YthfhnkpipdbekaaDoorW.PrintLast Go.Proofs.YthfhnkpipdbekaaDoorW.PrintMore
attribute [local go_sem] max2_int min2_int max_two min_two max_three min_three max_four min_four   -- for this text's walks alone
set_option linter.unusedVariables false
set_option linter.unusedSimpArgs false










def undo_Join.j0 : Nat → Bool → Int → List (S67) → Int → List (S67) → Option (Int × (List (S67)) × Int)
 | 0, _, _, _, _, _ => none
 | k + 1, x6, x102000, x102001, x103000, x103001 => if x6 = true then (some (0, ([] : List (S67)), 1)) else (if x102000 = x103000 then (if (wrap64 ((x102001.length : Int) + (x103001.length : Int))) > 200000 then (some (0, ([] : List (S67)), 5)) else ((slices_Concat_ops.f (([x102001, x103001] : List (List (S67))))).bind fun t109 => (some (x102000, t109, 0)))) else (some (0, ([] : List (S67)), 2)))
def undo_Join.f (k : Nat) (a0_0 : Int) (l0_1 : List (S67)) (a1_0 : Int) (l1_1 : List (S67)) : Option (Int × (List (S67)) × Int) := (undo_Valid.f a0_0 l0_1).bind fun t104 => (if t104 = true then ((undo_Valid.f a1_0 l1_1).bind fun t105 => (undo_Join.j0 k (!t105) a0_0 l0_1 a1_0 l1_1)) else (undo_Join.j0 k true a0_0 l0_1 a1_0 l1_1))
theorem undo_Join.mono_l : ∀ k, (∀ y0 y1 y2 y3 y4, LeO (undo_Join.j0 k y0 y1 y2 y3 y4) (undo_Join.j0 (k + 1) y0 y1 y2 y3 y4))
 | 0 => fun _ _ _ _ _ r h => by simp [undo_Join.j0] at h
 | k + 1 => by
  have ih0 := undo_Join.mono_l k
  ·intro y0 y1 y2 y3 y4
   unfold undo_Join.j0
   repeat' first
   | (with_reducible exact ih0 _ _ _ _ _)
   | (with_reducible exact LeO.refl _)
   | (with_reducible exact LeO.none _)
   | (with_reducible refine LeO.ite ?_ ?_)
   | (with_reducible refine LeO.bind ?_ (fun _ => ?_))
   | exact ih0 _ _ _ _ _
   | exact LeO.none _
   | refine LeO.ite ?_ ?_
   | refine LeO.bind ?_ (fun _ => ?_)
theorem undo_Join.mono : ∀ a0 a1 a2 a3 k, LeO (undo_Join.f k a0 a1 a2 a3) (undo_Join.f (k + 1) a0 a1 a2 a3) := by
 intro a0 a1 a2 a3 k
 have ih0 := undo_Join.mono_l k
 unfold undo_Join.f
 repeat' first
   | (with_reducible exact ih0 _ _ _ _ _)
   | (with_reducible exact LeO.refl _)
   | (with_reducible exact LeO.none _)
   | (with_reducible refine LeO.ite ?_ ?_)
   | (with_reducible refine LeO.bind ?_ (fun _ => ?_))
   | exact ih0 _ _ _ _ _
   | exact LeO.none _
   | refine LeO.ite ?_ ?_
   | refine LeO.bind ?_ (fun _ => ?_)
def undo_Join.T7 : Bool × List (List Nat × List Nat) := (true, [([], []), ([0], [0]), ([], []), ([2], [2]), ([], []), ([4], [4]), ([3, 5], [3, 5]), ([6], [6]), ([1, 7], [1, 7]), ([8, 7, 0, 1, 2, 3, 4, 5, 6, 7, 8], [8]), ([9, 0, 1, 2, 3, 4, 5, 6, 7, 8, 9], [])])
def undo_Join.B7 : List Nat := [0, 1, 0, 4, 0, 16, 60, 124, 255, 511, 1023]
theorem undo_Join.tab7 : rtab .any (opsOf Tryd.f38 7) = undo_Join.T7 := by kernel_rfl
theorem undo_Join.bits7 : waitsOk undo_Join.T7.2 undo_Join.B7 = true := by kernel_rfl
theorem pSj1 {α : Type} : (∀ (l : List α) (i : Nat) (a : α), l.toArray.setIfInBounds i a = (l.set i a).toArray) ∧ (∀ (l : List α) (x y : α), (x :: l).set 0 y = y :: l) ∧ (∀ (l : List α) (x y : α) (n : Nat), (x :: l).set (n + 1) y = x :: l.set n y) :=
 ⟨fun _ _ _ => List.setIfInBounds_toArray .., fun _ _ _ => rfl, fun _ _ _ _ => rfl⟩
open Bool renaming true → T, false → F
open Go.Proofs.YthfhnkpipdbekaaDoorW.PrintWords renaming blk_drewN → bA, blk_drew → bB, blk_alloc → bC, below_set → sT, Aside0.mk → aM, pw_below_drewN → pD, below_drew1 → pE, below_alloc → pA, blk_below → bD, blk_cell → bE, blk_frozen → bF
abbrev z0j1 : Array Bool := #[F,F,F,F,F,F,F,F,F,F,F]
abbrev z1j1 : Array Bool := #[T,F,F,F,F,F,F,F,F,F,F]
abbrev z2j1 : Array Bool := #[T,F,T,F,F,F,F,F,F,F,F]
abbrev z3j1 : Array Bool := #[T,F,T,F,T,F,F,F,F,F,F]
abbrev z4j1 : Array Bool := #[T,T,T,F,T,F,F,F,F,F,F]
abbrev z5j1 : Array Bool := #[T,T,T,T,T,F,F,F,F,F,F]
abbrev z6j1 : Array Bool := #[T,T,T,T,T,T,F,F,F,F,F]
abbrev z7j1 : Array Bool := #[T,T,T,T,T,T,T,F,F,F,F]
abbrev z8j1 : Array Bool := #[T,T,T,T,T,T,T,T,F,F,F]
abbrev z9j1 : Array Bool := #[T,T,T,T,T,T,T,T,T,F,F]
abbrev z10j1 : Array Bool := #[T,T,T,T,T,T,T,T,T,T,F]
abbrev z11j1 : Array Bool := #[T,T,T,T,T,T,T,T,T,T,T]
set_option maxHeartbeats 8000000 in
set_option maxRecDepth 100000 in
theorem undo_Join.calls (k : Nat) (a0_0 : Int) (P0_1_ : Nat → Prop) (A0_1 : Option Addr) (c0_1 : Nat) (l0_1 : List (S67)) (a1_0 : Int) (P1_1_ : Nat → Prop) (A1_1 : Option Addr) (c1_1 : Nat) (l1_1 : List (S67)) (r1 : Int) (r2 : List (S67)) (r3 : Int) (w : World) (hs0_1 : Kd.V k67 67 w w.heap.size (fun k_ => P0_1_ k_) (.slice A0_1 l0_1.length c0_1) l0_1) (hs1_1 : Kd.V k67 67 w w.heap.size (fun k_ => P1_1_ k_) (.slice A1_1 l1_1.length c1_1) l1_1) (h : undo_Join.f k a0_0 l0_1 a1_0 l1_1 = some (r1, r2, r3)) :
  Calls Tryd.prog 38 #[.agg #[.int .i64 a0_0, .slice A0_1 l0_1.length c0_1], .agg #[.int .i64 a1_0, .slice A1_1 l1_1.length c1_1]] w fun e w' => ∃ v1_ : Value, e = .returned (.tuple #[.agg #[.int .i64 r1, v1_], .int .i64 r3]) ∧ Kd.R k67 67 w' w.heap.size (fun k_ => (w.heap.size ≤ k_)) v1_ r2 ∧ Below w.heap.size w w' := by
 have hu25 := Tryd.underlying25
 have HO0_1 := aM (show Kd.V k67 67 w w.heap.size (fun k_ => ((P0_1_ k_ ∨ P1_1_ k_) ∨ w.heap.size ≤ k_)) (.slice A0_1 l0_1.length c0_1) l0_1 from Kd.V_mono hs0_1 (fun k_ hk => .inl (.inl hk)))
 have HO1_1 := aM (show Kd.V k67 67 w w.heap.size (fun k_ => ((P0_1_ k_ ∨ P1_1_ k_) ∨ w.heap.size ≤ k_)) (.slice A1_1 l1_1.length c1_1) l1_1 from Kd.V_mono hs1_1 (fun k_ hk => .inl (.inr hk)))
 have HB := aM (Below.refl w.heap.size w)
 have H : ((undo_Valid.f a0_0 l0_1).bind fun t104 => (if t104 = true then ((undo_Valid.f a1_0 l1_1).bind fun t105 => (undo_Join.j0 k (!t105) a0_0 l0_1 a1_0 l1_1)) else (undo_Join.j0 k true a0_0 l0_1 a1_0 l1_1))) = some (r1, r2, r3) := h
 clear h
 have HC3 := aM H
 clear H
 go_enter Tryd.func38, Tryd.ntmps38
 go_upto_region 1 with (first | ((with_reducible refine gate_dst (N := 2) rfl ?_); refine box_event ?hg (N := 2) ?hd (cs := #[.int .i64 a0_0, .slice A0_1 l0_1.length c0_1]) (t := 25) ?hr ?_; (case hd => rfl); (case hg => rfl); (case hr => first | (go_simp; done) | (go_simp; rfl)); intro gb101 hg w4 hbox hb; replace HO0_1 := aM (Kd.V_below (Kd.V_elderB (by (with_reducible repeat (first | apply Kd.V_alloc | apply Kd.V_drewN | apply Kd.V_drew)); exact HO0_1.out) gb101 (Nat.le_of_eq hg.symm)) hb); replace HO1_1 := aM (Kd.V_below (Kd.V_elderB (by (with_reducible repeat (first | apply Kd.V_alloc | apply Kd.V_drewN | apply Kd.V_drew)); exact HO1_1.out) gb101 (Nat.le_of_eq hg.symm)) hb); have B01 := aM (hbox); have GW101 := aM ((by rw [hg]; exact (below_size (by repeat (first | (with_reducible first | exact HB.out | apply pA | apply pD | apply pE) | exact HB.out))) : w.heap.size ≤ gb101)); have GE101 := aM ((by rw [hg]; exact (below_size (by repeat (first | (with_reducible first | exact HB.out | apply pA | apply pD | apply pE) | exact HB.out))) : w.heap.size ≤ gb101)); replace HB := aM (below_step (by repeat (first | (with_reducible first | exact HB.out | apply pA | apply pD | apply pE) | exact HB.out)) hb); clear hb hbox hg) | ((with_reducible refine gate_dst (N := 3) rfl ?_); refine box_event ?hg (N := 3) ?hd (cs := #[.int .i64 a1_0, .slice A1_1 l1_1.length c1_1]) (t := 25) ?hr ?_; (case hd => rfl); (case hg => rfl); (case hr => first | (go_simp; done) | (go_simp; rfl)); intro gb102 hg w5 hbox hb; replace HO0_1 := aM (Kd.V_below (Kd.V_elderB (by (with_reducible repeat (first | apply Kd.V_alloc | apply Kd.V_drewN | apply Kd.V_drew)); exact HO0_1.out) gb102 (Nat.le_of_eq hg.symm)) hb); replace HO1_1 := aM (Kd.V_below (Kd.V_elderB (by (with_reducible repeat (first | apply Kd.V_alloc | apply Kd.V_drewN | apply Kd.V_drew)); exact HO1_1.out) gb102 (Nat.le_of_eq hg.symm)) hb); have B02 := aM (hbox); have GW102 := aM ((by rw [hg]; exact (below_size (by repeat (first | (with_reducible first | exact HB.out | apply pA | apply pD | apply pE | refine sT ?_ GE101.out) | exact HB.out))) : w.heap.size ≤ gb102)); have GE102 := aM ((by rw [hg]; exact (below_size (by repeat (first | (with_reducible first | exact HB.out | apply pA | apply pD | apply pE | refine sT ?_ GE101.out) | exact HB.out))) : w.heap.size ≤ gb102)); replace HB := aM (below_step (by repeat (first | (with_reducible first | exact HB.out | apply pA | apply pD | apply pE | refine sT ?_ GE101.out) | exact HB.out)) hb); have NB101_102 := aM ((by rw [hg]; exact Nat.ne_of_lt (blk_lt (g := gb101) (o := .cells #[.int .i64 a0_0, .slice A0_1 l0_1.length c0_1] 25 (0, 0)) (by (with_reducible repeat (first | refine bA ?_ _ | refine bB ?_ | refine bC ?_ _)); exact B01.out)) : gb101 ≠ gb102)); have NB102_101 := aM ((by rw [hg]; exact Nat.ne_of_gt (blk_lt (g := gb101) (o := .cells #[.int .i64 a0_0, .slice A0_1 l0_1.length c0_1] 25 (0, 0)) (by (with_reducible repeat (first | refine bA ?_ _ | refine bB ?_ | refine bC ?_ _)); exact B01.out)) : gb102 ≠ gb101)); replace B01 := aM (bD (g := gb101) (o := .cells #[.int .i64 a0_0, .slice A0_1 l0_1.length c0_1] 25 (0, 0)) (by (with_reducible repeat (first | refine bA ?_ _ | refine bB ?_ | refine bC ?_ _)); exact B01.out) hb); clear hb hbox hg) | ((with_reducible refine gate_dst (N := 4) rfl ?_); refine box_event ?hg (N := 4) ?hd (cs := #[.int .i64 0, .slice none 0 0]) (t := 25) ?hr ?_; (case hd => rfl); (case hg => rfl); (case hr => first | (go_simp; done) | (go_simp; rfl)); intro gb103 hg w6 hbox hb; replace HO0_1 := aM (Kd.V_below (Kd.V_elderB (by (with_reducible repeat (first | apply Kd.V_alloc | apply Kd.V_drewN | apply Kd.V_drew)); exact HO0_1.out) gb103 (Nat.le_of_eq hg.symm)) hb); replace HO1_1 := aM (Kd.V_below (Kd.V_elderB (by (with_reducible repeat (first | apply Kd.V_alloc | apply Kd.V_drewN | apply Kd.V_drew)); exact HO1_1.out) gb103 (Nat.le_of_eq hg.symm)) hb); have B03 := aM (hbox); have GW103 := aM ((by rw [hg]; exact (below_size (by repeat (first | (with_reducible first | exact HB.out | apply pA | apply pD | apply pE | refine sT ?_ GE101.out | refine sT ?_ GE102.out) | exact HB.out))) : w.heap.size ≤ gb103)); have GE103 := aM ((by rw [hg]; exact (below_size (by repeat (first | (with_reducible first | exact HB.out | apply pA | apply pD | apply pE | refine sT ?_ GE101.out | refine sT ?_ GE102.out) | exact HB.out))) : w.heap.size ≤ gb103)); replace HB := aM (below_step (by repeat (first | (with_reducible first | exact HB.out | apply pA | apply pD | apply pE | refine sT ?_ GE101.out | refine sT ?_ GE102.out) | exact HB.out)) hb); have NB101_103 := aM ((by rw [hg]; exact Nat.ne_of_lt (blk_lt (g := gb101) (o := .cells #[.int .i64 a0_0, .slice A0_1 l0_1.length c0_1] 25 (0, 0)) (by (with_reducible repeat (first | refine bA ?_ _ | refine bB ?_ | refine bC ?_ _)); exact B01.out)) : gb101 ≠ gb103)); have NB103_101 := aM ((by rw [hg]; exact Nat.ne_of_gt (blk_lt (g := gb101) (o := .cells #[.int .i64 a0_0, .slice A0_1 l0_1.length c0_1] 25 (0, 0)) (by (with_reducible repeat (first | refine bA ?_ _ | refine bB ?_ | refine bC ?_ _)); exact B01.out)) : gb103 ≠ gb101)); replace B01 := aM (bD (g := gb101) (o := .cells #[.int .i64 a0_0, .slice A0_1 l0_1.length c0_1] 25 (0, 0)) (by (with_reducible repeat (first | refine bA ?_ _ | refine bB ?_ | refine bC ?_ _)); exact B01.out) hb); have NB102_103 := aM ((by rw [hg]; exact Nat.ne_of_lt (blk_lt (g := gb102) (o := .cells #[.int .i64 a1_0, .slice A1_1 l1_1.length c1_1] 25 (0, 0)) (by (with_reducible repeat (first | refine bA ?_ _ | refine bB ?_ | refine bC ?_ _)); exact B02.out)) : gb102 ≠ gb103)); have NB103_102 := aM ((by rw [hg]; exact Nat.ne_of_gt (blk_lt (g := gb102) (o := .cells #[.int .i64 a1_0, .slice A1_1 l1_1.length c1_1] 25 (0, 0)) (by (with_reducible repeat (first | refine bA ?_ _ | refine bB ?_ | refine bC ?_ _)); exact B02.out)) : gb103 ≠ gb102)); replace B02 := aM (bD (g := gb102) (o := .cells #[.int .i64 a1_0, .slice A1_1 l1_1.length c1_1] 25 (0, 0)) (by (with_reducible repeat (first | refine bA ?_ _ | refine bB ?_ | refine bC ?_ _)); exact B02.out) hb); clear hb hbox hg))
 (try simp only [Act.put, List.setIfInBounds_toArray, List.set_cons_zero, List.set_cons_succ])
 go_cut [6] (fun v6 wc => ∃ (kq : Nat) (x6_2 : Bool), v6 = .bool x6_2 ∧ Aside0 (undo_Join.j0 kq x6_2 a0_0 l0_1 a1_0 l1_1 = some (r1, r2, r3)) ∧ Aside0 (kq ≤ k) ∧ Aside0 (Kd.V k67 67 wc w.heap.size (fun k_ => ((P0_1_ k_ ∨ P1_1_ k_) ∨ w.heap.size ≤ k_) ∧ k_ ≠ gb101 ∧ k_ ≠ gb102 ∧ k_ ≠ gb103) (.slice A0_1 l0_1.length c0_1) l0_1) ∧ Aside0 (Kd.V k67 67 wc w.heap.size (fun k_ => ((P0_1_ k_ ∨ P1_1_ k_) ∨ w.heap.size ≤ k_) ∧ k_ ≠ gb101 ∧ k_ ≠ gb102 ∧ k_ ≠ gb103) (.slice A1_1 l1_1.length c1_1) l1_1) ∧ Aside0 (wc.heap[gb101]? = some (.cells #[.int .i64 a0_0, (.slice A0_1 l0_1.length c0_1)] 25 (0, 0))) ∧ Aside0 (wc.heap[gb102]? = some (.cells #[.int .i64 a1_0, (.slice A1_1 l1_1.length c1_1)] 25 (0, 0))) ∧ Aside0 (wc.heap[gb103]? = some (.cells #[.int .i64 0, (.slice none 0 0)] 25 (0, 0))) ∧ Aside0 (Below w.heap.size w wc))
 case first =>
  have H := HC3.out
  clear HC3
  replace H := Option.bind_eq_some_iff.mp H
  obtain ⟨t104, A70, H⟩ := H
  replace H : (if t104 = true then ((undo_Valid.f a1_0 l1_1).bind fun t105 => (undo_Join.j0 k (!t105) a0_0 l0_1 a1_0 l1_1)) else (undo_Join.j0 k true a0_0 l0_1 a1_0 l1_1)) = some (r1, r2, r3) := H
  have A7 := aM A70
  clear A70
  by_cases c8 : t104 = true
  ·subst c8
   have H1 : ((undo_Valid.f a1_0 l1_1).bind fun t105 => (undo_Join.j0 k (!t105) a0_0 l0_1 a1_0 l1_1)) = some (r1, r2, r3) := by rw [if_pos rfl] at H; exact H
   clear H
   have H := H1
   clear H1
   replace H := Option.bind_eq_some_iff.mp H
   obtain ⟨t105, A90, H⟩ := H
   replace H : (undo_Join.j0 k (!t105) a0_0 l0_1 a1_0 l1_1) = some (r1, r2, r3) := H
   have A9 := aM A90
   clear A90
   have H' := aM H
   clear H
   have hnb10 := NB101_102.out
   have hnc10 := NB102_101.out
   have hnb11 := NB101_103.out
   have hnc11 := NB103_101.out
   have hcz12_0 : w6.cell? ⟨gb101, 0, none⟩ = some (.int .i64 a0_0) := (bE B01.out 0).trans rfl
   have hcz12_1 : w6.cell? ⟨gb101, 1, none⟩ = some (.slice A0_1 l0_1.length c0_1) := (bE B01.out 1).trans rfl
   have hfz12_0 := bF B01.out 0
   have hfz12_1 := bF B01.out 1
   go_wp2_with (first | ((with_reducible refine gate_callee (f := 28) rfl ?_); refine goesL_ (some 8) rfl rfl Tryd.func28 (by kernel_rfl) rfl #[.agg #[.int .i64 a0_0, .slice A0_1 l0_1.length c0_1]] rfl (by (try simp only [List.map_toArray, List.map_cons, List.map_nil]); first | done | rfl | (simp only [List.length_drop, List.length_take]; rfl)) ?_; (with_reducible refine (undo_Valid.calls a0_0 _ _ l0_1 true _ ?side1 ?side2 A7.out).mono ?_); (case side1 => repeat (first | exact (Kd.V_reads' HO0_1.out).2.2 | (with_reducible refine Kd.C_alloc ?_ _) | (with_reducible refine Kd.C_drewN ?_ _) | (with_reducible refine Kd.C_drew ?_))); (case side2 => exact (Kd.V_reads' HO0_1.out).2.1); rintro e w13 ⟨rfl, hb⟩; refine ⟨_, rfl, ?_⟩; replace HO0_1 := aM (Kd.V_below (by (with_reducible repeat (first | apply Kd.V_alloc | apply Kd.V_drewN | apply Kd.V_drew)); exact HO0_1.out) hb); replace HO1_1 := aM (Kd.V_below (by (with_reducible repeat (first | apply Kd.V_alloc | apply Kd.V_drewN | apply Kd.V_drew)); exact HO1_1.out) hb); replace B01 := aM (bD (g := gb101) (o := .cells #[.int .i64 a0_0, .slice A0_1 l0_1.length c0_1] 25 (0, 0)) (by (with_reducible repeat (first | refine bA ?_ _ | refine bB ?_ | refine bC ?_ _)); exact B01.out) hb); replace B02 := aM (bD (g := gb102) (o := .cells #[.int .i64 a1_0, .slice A1_1 l1_1.length c1_1] 25 (0, 0)) (by (with_reducible repeat (first | refine bA ?_ _ | refine bB ?_ | refine bC ?_ _)); exact B02.out) hb); replace B03 := aM (bD (g := gb103) (o := .cells #[.int .i64 0, .slice none 0 0] 25 (0, 0)) (by (with_reducible repeat (first | refine bA ?_ _ | refine bB ?_ | refine bC ?_ _)); exact B03.out) hb); replace HB := aM (below_step (by repeat (first | (with_reducible first | exact HB.out | apply pA | apply pD | apply pE | refine sT ?_ GE101.out | refine sT ?_ GE102.out | refine sT ?_ GE103.out) | exact HB.out)) hb); (try clear hb); (try clear hb2); (try clear hk); (try clear hi); have hnb14 := NB102_103.out; have hnc14 := NB103_102.out; have hcz15_0 : w13.cell? ⟨gb102, 0, none⟩ = some (.int .i64 a1_0) := (bE B02.out 0).trans rfl; have hcz15_1 : w13.cell? ⟨gb102, 1, none⟩ = some (.slice A1_1 l1_1.length c1_1) := (bE B02.out 1).trans rfl; have hfz15_0 := bF B02.out 0; have hfz15_1 := bF B02.out 1) | (go_at_call 28; (with_reducible refine (undo_Valid.calls a1_0 _ _ l1_1 t105 _ ?side1 ?side2 A9.out).mono ?_); (case side1 => repeat (first | exact (Kd.V_reads' HO1_1.out).2.2 | (with_reducible refine Kd.C_alloc ?_ _) | (with_reducible refine Kd.C_drewN ?_ _) | (with_reducible refine Kd.C_drew ?_))); (case side2 => exact (Kd.V_reads' HO1_1.out).2.1); rintro e w16 ⟨rfl, hb⟩; replace HO0_1 := aM (Kd.V_below (by (with_reducible repeat (first | apply Kd.V_alloc | apply Kd.V_drewN | apply Kd.V_drew)); exact HO0_1.out) hb); replace HO1_1 := aM (Kd.V_below (by (with_reducible repeat (first | apply Kd.V_alloc | apply Kd.V_drewN | apply Kd.V_drew)); exact HO1_1.out) hb); replace B01 := aM (bD (g := gb101) (o := .cells #[.int .i64 a0_0, .slice A0_1 l0_1.length c0_1] 25 (0, 0)) (by (with_reducible repeat (first | refine bA ?_ _ | refine bB ?_ | refine bC ?_ _)); exact B01.out) hb); replace B02 := aM (bD (g := gb102) (o := .cells #[.int .i64 a1_0, .slice A1_1 l1_1.length c1_1] 25 (0, 0)) (by (with_reducible repeat (first | refine bA ?_ _ | refine bB ?_ | refine bC ?_ _)); exact B02.out) hb); replace B03 := aM (bD (g := gb103) (o := .cells #[.int .i64 0, .slice none 0 0] 25 (0, 0)) (by (with_reducible repeat (first | refine bA ?_ _ | refine bB ?_ | refine bC ?_ _)); exact B03.out) hb); replace HB := aM (below_step (by repeat (first | (with_reducible first | exact HB.out | apply pA | apply pD | apply pE | refine sT ?_ GE101.out | refine sT ?_ GE102.out | refine sT ?_ GE103.out) | exact HB.out)) hb); (try clear hb); (try clear hb2); (try clear hk); (try clear hi)))
   go_meet
   case rel => exact ⟨_, (!t105), (by first | rfl | (simp; done) | (simp [*]; done)), H', ⟨by first | omega | exact Nat.le_refl _⟩, ⟨by (with_reducible repeat (first | apply Kd.V_alloc | apply Kd.V_drewN | apply Kd.V_drew)); exact Kd.V_mono HO0_1.out (fun _ hk => ⟨hk.1.1.1, ⟨hk.1.1.2, ⟨hk.1.2, hk.2⟩⟩⟩)⟩, ⟨by (with_reducible repeat (first | apply Kd.V_alloc | apply Kd.V_drewN | apply Kd.V_drew)); exact Kd.V_mono HO1_1.out (fun _ hk => ⟨hk.1.1.1, ⟨hk.1.1.2, ⟨hk.1.2, hk.2⟩⟩⟩)⟩, ⟨by (with_reducible repeat (first | refine bA ?_ _ | refine bB ?_ | refine bC ?_ _)); exact B01.out⟩, ⟨by (with_reducible repeat (first | refine bA ?_ _ | refine bB ?_ | refine bC ?_ _)); exact B02.out⟩, ⟨by (with_reducible repeat (first | refine bA ?_ _ | refine bB ?_ | refine bC ?_ _)); exact B03.out⟩, ⟨by repeat (first | (with_reducible first | exact HB.out | apply pA | apply pD | apply pE | refine sT ?_ GE101.out | refine sT ?_ GE102.out | refine sT ?_ GE103.out) | exact HB.out)⟩⟩
  ·replace c8 := Bool.eq_false_iff.mpr c8
   subst c8
   have H1 : (undo_Join.j0 k true a0_0 l0_1 a1_0 l1_1) = some (r1, r2, r3) := by rw [if_neg (show ¬ (false = true) by decide)] at H; exact H
   clear H
   have H := H1
   clear H1
   have H' := aM H
   clear H
   have hnb17 := NB101_102.out
   have hnc17 := NB102_101.out
   have hnb18 := NB101_103.out
   have hnc18 := NB103_101.out
   have hcz19_0 : w6.cell? ⟨gb101, 0, none⟩ = some (.int .i64 a0_0) := (bE B01.out 0).trans rfl
   have hcz19_1 : w6.cell? ⟨gb101, 1, none⟩ = some (.slice A0_1 l0_1.length c0_1) := (bE B01.out 1).trans rfl
   have hfz19_0 := bF B01.out 0
   have hfz19_1 := bF B01.out 1
   go_wp2_with (first | ((with_reducible refine gate_callee (f := 28) rfl ?_); refine goesL_ (some 8) rfl rfl Tryd.func28 (by kernel_rfl) rfl #[.agg #[.int .i64 a0_0, .slice A0_1 l0_1.length c0_1]] rfl (by (try simp only [List.map_toArray, List.map_cons, List.map_nil]); first | done | rfl | (simp only [List.length_drop, List.length_take]; rfl)) ?_; (with_reducible refine (undo_Valid.calls a0_0 _ _ l0_1 false _ ?side1 ?side2 A7.out).mono ?_); (case side1 => repeat (first | exact (Kd.V_reads' HO0_1.out).2.2 | (with_reducible refine Kd.C_alloc ?_ _) | (with_reducible refine Kd.C_drewN ?_ _) | (with_reducible refine Kd.C_drew ?_))); (case side2 => exact (Kd.V_reads' HO0_1.out).2.1); rintro e w20 ⟨rfl, hb⟩; refine ⟨_, rfl, ?_⟩; replace HO0_1 := aM (Kd.V_below (by (with_reducible repeat (first | apply Kd.V_alloc | apply Kd.V_drewN | apply Kd.V_drew)); exact HO0_1.out) hb); replace HO1_1 := aM (Kd.V_below (by (with_reducible repeat (first | apply Kd.V_alloc | apply Kd.V_drewN | apply Kd.V_drew)); exact HO1_1.out) hb); replace B01 := aM (bD (g := gb101) (o := .cells #[.int .i64 a0_0, .slice A0_1 l0_1.length c0_1] 25 (0, 0)) (by (with_reducible repeat (first | refine bA ?_ _ | refine bB ?_ | refine bC ?_ _)); exact B01.out) hb); replace B02 := aM (bD (g := gb102) (o := .cells #[.int .i64 a1_0, .slice A1_1 l1_1.length c1_1] 25 (0, 0)) (by (with_reducible repeat (first | refine bA ?_ _ | refine bB ?_ | refine bC ?_ _)); exact B02.out) hb); replace B03 := aM (bD (g := gb103) (o := .cells #[.int .i64 0, .slice none 0 0] 25 (0, 0)) (by (with_reducible repeat (first | refine bA ?_ _ | refine bB ?_ | refine bC ?_ _)); exact B03.out) hb); replace HB := aM (below_step (by repeat (first | (with_reducible first | exact HB.out | apply pA | apply pD | apply pE | refine sT ?_ GE101.out | refine sT ?_ GE102.out | refine sT ?_ GE103.out) | exact HB.out)) hb); (try clear hb); (try clear hb2); (try clear hk); (try clear hi)))
   go_meet
   case rel => exact ⟨_, (true), (by first | rfl | (simp; done) | (simp [*]; done)), H', ⟨by first | omega | exact Nat.le_refl _⟩, ⟨by (with_reducible repeat (first | apply Kd.V_alloc | apply Kd.V_drewN | apply Kd.V_drew)); exact Kd.V_mono HO0_1.out (fun _ hk => ⟨hk.1.1.1, ⟨hk.1.1.2, ⟨hk.1.2, hk.2⟩⟩⟩)⟩, ⟨by (with_reducible repeat (first | apply Kd.V_alloc | apply Kd.V_drewN | apply Kd.V_drew)); exact Kd.V_mono HO1_1.out (fun _ hk => ⟨hk.1.1.1, ⟨hk.1.1.2, ⟨hk.1.2, hk.2⟩⟩⟩)⟩, ⟨by (with_reducible repeat (first | refine bA ?_ _ | refine bB ?_ | refine bC ?_ _)); exact B01.out⟩, ⟨by (with_reducible repeat (first | refine bA ?_ _ | refine bB ?_ | refine bC ?_ _)); exact B02.out⟩, ⟨by (with_reducible repeat (first | refine bA ?_ _ | refine bB ?_ | refine bC ?_ _)); exact B03.out⟩, ⟨by repeat (first | (with_reducible first | exact HB.out | apply pA | apply pD | apply pE | refine sT ?_ GE101.out | refine sT ?_ GE102.out | refine sT ?_ GE103.out) | exact HB.out)⟩⟩
 case rest =>
  clear HC3
  try clear c1
  try clear c2
  try clear p2
  try clear c3
  try clear c8
  try clear c10
  try clear c11
  try clear c14
  try clear c17
  try clear c18
  try clear hcz12_0
  try clear hcz12_1
  try clear hcz15_0
  try clear hcz15_1
  try clear hcz19_0
  try clear hcz19_1
  try clear hfz12_0
  try clear hfz12_1
  try clear hfz15_0
  try clear hfz15_1
  try clear hfz19_0
  try clear hfz19_1
  obtain ⟨kq, x6_2, rfl, HA, HJ2, HO_102001, HO_103001, B01, B02, B03, HB⟩ := hcut
  cases kq with
  | zero => exact absurd HA.out (by simp [undo_Join.j0])
  | succ kj2 =>
   have H := HA.out
   clear HA
   simp only [undo_Join.j0] at H
   by_cases c21 : x6_2 = true
   ·subst c21
    have H1 : (some (0, ([] : List (S67)), 1)) = some (r1, r2, r3) := by rw [if_pos rfl] at H; exact H
    clear H
    have H := H1
    clear H1
    simp only [Option.some.injEq, Prod.mk.injEq] at H
    obtain ⟨rfl, rfl, rfl⟩ := H
    have hnb22 := NB103_101.out
    have hnc22 := NB101_103.out
    have hnb23 := NB103_102.out
    have hnc23 := NB102_103.out
    have hcz24_0 : wc.cell? ⟨gb103, 0, none⟩ = some (.int .i64 0) := (bE B03.out 0).trans rfl
    have hcz24_1 : wc.cell? ⟨gb103, 1, none⟩ = some (.slice none 0 0) := (bE B03.out 1).trans rfl
    have hfz24_0 := bF B03.out 0
    have hfz24_1 := bF B03.out 1
    go_wp2
    refine bodyPost_ret (results_ct rfl _ _ gb103 25 #[.int .i64 0, .slice none 0 0] (0, 0) _ rfl (by (with_reducible repeat (first | refine bA ?_ _ | refine bB ?_ | refine bC ?_ _)); refine blk_put (cs := #[.int .i64 0, .slice none 0 0]) ?_ 1 _ rfl; (with_reducible repeat (first | refine bA ?_ _ | refine bB ?_ | refine bC ?_ _)); refine blk_put (cs := #[.int .i64 0, .slice none 0 0]) ?_ 0 _ rfl; (with_reducible repeat (first | refine bA ?_ _ | refine bB ?_ | refine bC ?_ _)); exact B03.out) Tryd.underlying25 rfl (by kernel_rfl)) rfl ?_
    exact ⟨_, by first | rfl | (simp [errW_none, errW_some] <;> rfl) | (simp [*, errW_none, errW_some] <;> rfl), by first | exact Kd.R_nil _ _ _ _ _ | exact Kd.N_nil _ _ _ _ _ | exact Kd.V_nil _ _ _ _ _ | exact Kd.Q_nil _ _ _ _ _ | exact Kd.S_nil _ _ _ _ _, by repeat (first | (with_reducible first | exact HB.out | apply pA | apply pD | apply pE | refine sT ?_ GE101.out | refine sT ?_ GE102.out | refine sT ?_ GE103.out) | exact HB.out)⟩
   ·replace c21 := Bool.eq_false_iff.mpr c21
    subst c21
    have H1 : (if a0_0 = a1_0 then (if (wrap64 ((l0_1.length : Int) + (l1_1.length : Int))) > 200000 then (some (0, ([] : List (S67)), 5)) else ((slices_Concat_ops.f (([l0_1, l1_1] : List (List (S67))))).bind fun t109 => (some (a0_0, t109, 0)))) else (some (0, ([] : List (S67)), 2))) = some (r1, r2, r3) := by rw [if_neg (show ¬ (false = true) by decide)] at H; exact H
    clear H
    have H := H1
    clear H1
    by_cases c25 : a0_0 = a1_0
    ·rw [if_pos c25] at H
     have c25b0 : (a0_0 == a1_0) = true := beq_iff_eq.mpr c25
     have c25b1 : (a0_0 != a1_0) = false := bne_eq_false_iff_eq.mpr c25
     clear c25
     by_cases c26 : (wrap64 ((l0_1.length : Int) + (l1_1.length : Int))) > 200000
     ·rw [if_pos c26] at H
      have c26b0 : decide (200000 < (wrap64 ((l0_1.length : Int) + (l1_1.length : Int)))) = true := decide_eq_true c26
      clear c26
      simp only [Option.some.injEq, Prod.mk.injEq] at H
      obtain ⟨rfl, rfl, rfl⟩ := H
      have hnb27 := NB101_102.out
      have hnc27 := NB102_101.out
      have hnb28 := NB101_103.out
      have hnc28 := NB103_101.out
      have hcz29_0 : wc.cell? ⟨gb101, 0, none⟩ = some (.int .i64 a0_0) := (bE B01.out 0).trans rfl
      have hcz29_1 : wc.cell? ⟨gb101, 1, none⟩ = some (.slice A0_1 l0_1.length c0_1) := (bE B01.out 1).trans rfl
      have hfz29_0 := bF B01.out 0
      have hfz29_1 := bF B01.out 1
      have hnb30 := NB102_103.out
      have hnc30 := NB103_102.out
      have hcz31_0 : wc.cell? ⟨gb102, 0, none⟩ = some (.int .i64 a1_0) := (bE B02.out 0).trans rfl
      have hcz31_1 : wc.cell? ⟨gb102, 1, none⟩ = some (.slice A1_1 l1_1.length c1_1) := (bE B02.out 1).trans rfl
      have hfz31_0 := bF B02.out 0
      have hfz31_1 := bF B02.out 1
      have hcz32_0 : wc.cell? ⟨gb103, 0, none⟩ = some (.int .i64 0) := (bE B03.out 0).trans rfl
      have hcz32_1 : wc.cell? ⟨gb103, 1, none⟩ = some (.slice none 0 0) := (bE B03.out 1).trans rfl
      have hfz32_0 := bF B03.out 0
      have hfz32_1 := bF B03.out 1
      go_wp2
      refine bodyPost_ret (results_ct rfl _ _ gb103 25 #[.int .i64 0, .slice none 0 0] (0, 0) _ rfl (by (with_reducible repeat (first | refine bA ?_ _ | refine bB ?_ | refine bC ?_ _)); refine blk_put (cs := #[.int .i64 0, .slice none 0 0]) ?_ 1 _ rfl; (with_reducible repeat (first | refine bA ?_ _ | refine bB ?_ | refine bC ?_ _)); refine blk_put (cs := #[.int .i64 0, .slice none 0 0]) ?_ 0 _ rfl; (with_reducible repeat (first | refine bA ?_ _ | refine bB ?_ | refine bC ?_ _)); exact B03.out) Tryd.underlying25 rfl (by kernel_rfl)) rfl ?_
      exact ⟨_, by first | rfl | (simp [errW_none, errW_some] <;> rfl) | (simp [*, errW_none, errW_some] <;> rfl), by first | exact Kd.R_nil _ _ _ _ _ | exact Kd.N_nil _ _ _ _ _ | exact Kd.V_nil _ _ _ _ _ | exact Kd.Q_nil _ _ _ _ _ | exact Kd.S_nil _ _ _ _ _, by repeat (first | (with_reducible first | exact HB.out | apply pA | apply pD | apply pE | refine sT ?_ GE101.out | refine sT ?_ GE102.out | refine sT ?_ GE103.out) | exact HB.out)⟩
     ·rw [if_neg c26] at H
      have c26b0 : decide (200000 < (wrap64 ((l0_1.length : Int) + (l1_1.length : Int)))) = false := decide_eq_false c26
      clear c26
      obtain ⟨y106, hy106⟩ : ∃ y_ : List (List (S67)), y_ = (([l0_1, l1_1] : List (List (S67)))) := ⟨_, rfl⟩
      replace H : ((slices_Concat_ops.f y106).bind fun t109 => (some (a0_0, t109, 0))) = some (r1, r2, r3) := by first | (rw [hy106]; with_reducible exact H) | (have H2_ := (Option.bind_some _ _).symm.trans H; rw [hy106]; with_reducible exact H2_) | (have H2_ := (Option.bind_some _ _).symm.trans H; with_reducible exact H2_) | with_reducible exact H | (rw [hy106]; exact H) | exact H
      have Ny106 := aM hy106
      clear hy106
      replace H := Option.bind_eq_some_iff.mp H
      obtain ⟨t109, A330, H⟩ := H
      replace H : (some (a0_0, t109, 0)) = some (r1, r2, r3) := H
      have A33 := aM A330
      clear A330
      simp only [Option.some.injEq, Prod.mk.injEq] at H
      obtain ⟨rfl, rfl, rfl⟩ := H
      have hnb34 := NB101_102.out
      have hnc34 := NB102_101.out
      have hnb35 := NB101_103.out
      have hnc35 := NB103_101.out
      have hcz36_0 : wc.cell? ⟨gb101, 0, none⟩ = some (.int .i64 a0_0) := (bE B01.out 0).trans rfl
      have hcz36_1 : wc.cell? ⟨gb101, 1, none⟩ = some (.slice A0_1 l0_1.length c0_1) := (bE B01.out 1).trans rfl
      have hfz36_0 := bF B01.out 0
      have hfz36_1 := bF B01.out 1
      have hnb37 := NB102_103.out
      have hnc37 := NB103_102.out
      have hcz38_0 : wc.cell? ⟨gb102, 0, none⟩ = some (.int .i64 a1_0) := (bE B02.out 0).trans rfl
      have hcz38_1 : wc.cell? ⟨gb102, 1, none⟩ = some (.slice A1_1 l1_1.length c1_1) := (bE B02.out 1).trans rfl
      have hfz38_0 := bF B02.out 0
      have hfz38_1 := bF B02.out 1
      try go_wp2
      replace HO_102001 := aM (Kd.V_drew HO_102001.out)
      replace HO_103001 := aM (Kd.V_drew HO_103001.out)
      replace B01 := aM (bB B01.out)
      replace B02 := aM (bB B02.out)
      replace B03 := aM (bB B03.out)
      replace HB := aM (pE HB.out)
      refine start_ (n := 11) (S := fun w' => w'.cell? ⟨gb101, 0, none⟩ = some (.int .i64 a0_0) ∧ w'.cell? ⟨gb101, 1, none⟩ = some (.slice A0_1 l0_1.length c0_1) ∧ w'.cell? ⟨gb102, 0, none⟩ = some (.int .i64 a1_0) ∧ w'.cell? ⟨gb102, 1, none⟩ = some (.slice A1_1 l1_1.length c1_1)) (ds := []) z0j1 (by kernel_rfl) rfl rfl ⟨(bE B01.out 0).trans rfl, (bE B01.out 1).trans rfl, (bE B02.out 0).trans rfl, (bE B02.out 1).trans rfl⟩ (fun hHeld => ?_); refine with_tabW undo_Join.tab7 undo_Join.bits7 (fun HT_ HW_ => ?_)
      generalize wc.drew = w39 at HO_102001 HO_103001 B01 B02 B03 HB hHeld ⊢
      refine pure_ (i := 0) (N := some 33) (v := ?_) (a' := ?_) z1j1 rfl rfl (any_of HT_.out (by kernel_rfl)) (fun _ _ _ h => h) (Or.inl ⟨by rfl, ?_⟩) ?_ ?_; rotate_left; (intro w'; go_simp; with_reducible rfl); rotate_left; (simp only [Act.put, pSj1, i64_w]; rfl)
      refine pure_ (i := 2) (N := some 35) (v := ?_) (a' := ?_) z2j1 rfl rfl (any_of HT_.out (by kernel_rfl)) (fun _ _ _ h => h) (Or.inl ⟨by rfl, ?_⟩) ?_ ?_; rotate_left; (intro w'; go_simp; with_reducible rfl); rotate_left; (simp only [Act.put, pSj1, i64_w]; rfl)
      refine pure_ (i := 4) (N := some 37) (v := ?_) (a' := ?_) z3j1 rfl rfl (any_of HT_.out (by kernel_rfl)) (fun _ _ _ h => h) (Or.inl ⟨by rfl, ?_⟩) ?_ ?_; rotate_left; (intro w'; go_simp; with_reducible rfl); rotate_left; (simp only [Act.put, pSj1, i64_w]; rfl)
      refine take_ (i := 1) (N := some 34) (v := ?_) (a' := ?_) z4j1 rfl rfl (take_ofW HT_.out HW_.out (by kernel_rfl)) (fun _ _ _ h => h) (Or.inl ⟨by rfl, ?_⟩) hHeld ?_ ?_; rotate_left; (rintro w' ⟨s0, s1, s2, s3⟩; go_simp; with_reducible rfl); rotate_left; (simp only [Act.put, pSj1, i64_w]; rfl)
      refine take_ (i := 3) (N := some 36) (v := ?_) (a' := ?_) z5j1 rfl rfl (take_ofW HT_.out HW_.out (by kernel_rfl)) (fun _ _ _ h => h) (Or.inl ⟨by rfl, ?_⟩) hHeld ?_ ?_; rotate_left; (rintro w' ⟨s0, s1, s2, s3⟩; go_simp; with_reducible rfl); rotate_left; (simp only [Act.put, pSj1, i64_w]; rfl)
      refine take_ (i := 5) (N := some 38) (v := ?_) (a' := ?_) z6j1 rfl rfl (take_ofW HT_.out HW_.out (by kernel_rfl)) (fun _ _ _ h => h) (Or.inl ⟨by rfl, ?_⟩) hHeld ?_ ?_; rotate_left; (rintro w' ⟨s0, s1, s2, s3⟩; go_simp; with_reducible rfl); rotate_left; (simp only [Act.put, pSj1, i64_w]; rfl)
      refine one_ (i := 6) (N := some 39) z7j1 rfl rfl (one_of HT_.out (by kernel_rfl)) (by decide) (fun K hK => ?_)
      refine Kd.N_lit_step (Kd.slice 67 k67) _ 23 ?hg (N' := 39) ?hd (xs := ([l0_1, l1_1] : List (List (S67)))) (inner := [.slice A0_1 l0_1.length c0_1, .slice A1_1 l1_1.length c1_1]) (ok := (fun k_ => ((P0_1_ k_ ∨ P1_1_ k_) ∨ w.heap.size ≤ k_) ∧ k_ ≠ gb101 ∧ k_ ≠ gb102 ∧ k_ ≠ gb103)) (okp := (fun k_ => ((P0_1_ k_ ∨ P1_1_ k_) ∨ w.heap.size ≤ k_) ∧ k_ ≠ gb101 ∧ k_ ≠ gb102 ∧ k_ ≠ gb103)) ?hr ?hp (fun _ hk => hk) ((show ∀ k_, w39.heap.size ≤ k_ → (fun k_ => ((P0_1_ k_ ∨ P1_1_ k_) ∨ w.heap.size ≤ k_) ∧ k_ ≠ gb101 ∧ k_ ≠ gb102 ∧ k_ ≠ gb103) k_ from fun k_ hk => ⟨(.inr (Nat.le_trans (below_size (by repeat (first | (with_reducible first | exact HB.out | apply pA | apply pD | apply pE | refine sT ?_ GE101.out | refine sT ?_ GE102.out | refine sT ?_ GE103.out) | exact HB.out))) hk)), Kd.freshB (g := gb101) (o := .cells #[.int .i64 a0_0, .slice A0_1 l0_1.length c0_1] 25 (0, 0)) (by (with_reducible repeat (first | refine bA ?_ _ | refine bB ?_ | refine bC ?_ _)); exact B01.out) k_ hk, Kd.freshB (g := gb102) (o := .cells #[.int .i64 a1_0, .slice A1_1 l1_1.length c1_1] 25 (0, 0)) (by (with_reducible repeat (first | refine bA ?_ _ | refine bB ?_ | refine bC ?_ _)); exact B02.out) k_ hk, Kd.freshB (g := gb103) (o := .cells #[.int .i64 0, .slice none 0 0] 25 (0, 0)) (by (with_reducible repeat (first | refine bA ?_ _ | refine bB ?_ | refine bC ?_ _)); exact B03.out) k_ hk⟩) _ (Nat.le_refl _)) (Below.refl _ _) (Nat.le_refl _) (by simp) ?_; (case hd => rfl); (case hg => rfl); (case hr => first | (go_simp; done) | (go_simp; rfl)); (case hp => exact (Reps.one (show Kd.FK (Kd.slice 67 k67) _ _ l0_1 [.slice A0_1 l0_1.length c0_1] from (Kd.FK_slice_mk (Kd.V_reads' (Kd.V_mono (ok' := (fun k_ => ((P0_1_ k_ ∨ P1_1_ k_) ∨ w.heap.size ≤ k_) ∧ k_ ≠ gb101 ∧ k_ ≠ gb102 ∧ k_ ≠ gb103)) (HO_102001.out) (fun k_ hk => ⟨hk.1, ⟨hk.2.1, ⟨hk.2.2.1, hk.2.2.2⟩⟩⟩))).2.1 (Kd.V_F (Kd.V_mono (ok' := (fun k_ => ((P0_1_ k_ ∨ P1_1_ k_) ∨ w.heap.size ≤ k_) ∧ k_ ≠ gb101 ∧ k_ ≠ gb102 ∧ k_ ≠ gb103)) (HO_102001.out) (fun k_ hk => ⟨hk.1, ⟨hk.2.1, ⟨hk.2.2.1, hk.2.2.2⟩⟩⟩))))) (Reps.one (show Kd.FK (Kd.slice 67 k67) _ _ l1_1 [.slice A1_1 l1_1.length c1_1] from (Kd.FK_slice_mk (Kd.V_reads' (Kd.V_mono (ok' := (fun k_ => ((P0_1_ k_ ∨ P1_1_ k_) ∨ w.heap.size ≤ k_) ∧ k_ ≠ gb101 ∧ k_ ≠ gb102 ∧ k_ ≠ gb103)) (HO_103001.out) (fun k_ hk => ⟨hk.1, ⟨hk.2.1, ⟨hk.2.2.1, hk.2.2.2⟩⟩⟩))).2.1 (Kd.V_F (Kd.V_mono (ok' := (fun k_ => ((P0_1_ k_ ∨ P1_1_ k_) ∨ w.heap.size ≤ k_) ∧ k_ ≠ gb101 ∧ k_ ≠ gb102 ∧ k_ ≠ gb103)) (HO_103001.out) (fun k_ hk => ⟨hk.1, ⟨hk.2.1, ⟨hk.2.2.1, hk.2.2.2⟩⟩⟩))))) (Reps.none _ _))))
      intro v107 w40 ho41 hb hg_ hnew_
      clear hg_ hnew_
      (first | rw [← Ny106.out] at ho41 | (simp only [Int.reduceToNat] at ho41; rw [← Ny106.out] at ho41))
      replace HO_102001 := aM (Kd.V_elder' (by (with_reducible repeat (first | apply Kd.V_alloc | apply Kd.V_drewN | apply Kd.V_drew)); exact HO_102001.out) (Kd.N_base ho41) hb)
      replace HO_103001 := aM (Kd.V_elder' (by (with_reducible repeat (first | apply Kd.V_alloc | apply Kd.V_drewN | apply Kd.V_drew)); exact HO_103001.out) (Kd.N_base ho41) hb)
      have HO108 := aM (Kd.N_lower ho41 (below_size (by repeat (first | (with_reducible first | exact HB.out | apply pA | apply pD | apply pE | refine sT ?_ GE101.out | refine sT ?_ GE102.out | refine sT ?_ GE103.out) | exact HB.out))))
      replace B01 := aM (bD (g := gb101) (o := .cells #[.int .i64 a0_0, .slice A0_1 l0_1.length c0_1] 25 (0, 0)) (by (with_reducible repeat (first | refine bA ?_ _ | refine bB ?_ | refine bC ?_ _)); exact B01.out) hb)
      replace B02 := aM (bD (g := gb102) (o := .cells #[.int .i64 a1_0, .slice A1_1 l1_1.length c1_1] 25 (0, 0)) (by (with_reducible repeat (first | refine bA ?_ _ | refine bB ?_ | refine bC ?_ _)); exact B02.out) hb)
      replace B03 := aM (bD (g := gb103) (o := .cells #[.int .i64 0, .slice none 0 0] 25 (0, 0)) (by (with_reducible repeat (first | refine bA ?_ _ | refine bB ?_ | refine bC ?_ _)); exact B03.out) hb)
      replace HB := aM (below_step (by repeat (first | (with_reducible first | exact HB.out | apply pA | apply pD | apply pE | refine sT ?_ GE101.out | refine sT ?_ GE102.out | refine sT ?_ GE103.out) | exact HB.out)) hb)
      clear hb ho41
      obtain ⟨Ao42, co42, eo42⟩ := Kd.N_slice HO108.out
      (first | subst eo42 | (injection eo42 with f1_ f2_ f3_; have f4_ := f1_.symm; have f5_ := f3_.symm; clear f1_ f2_ f3_; subst f4_; subst f5_))
      refine hK.out _ _ ⟨(bE B01.out 0).trans rfl, (bE B01.out 1).trans rfl, (bE B02.out 0).trans rfl, (bE B02.out 1).trans rfl⟩ (fun hHeld => ?_)
      clear hK K
      refine norm_ (a' := ?_) ?_ ?_
      rotate_left
      ·show Act.put _ (some 39) _ = _
       simp only [Act.put, pSj1, i64_w]
       rfl
      refine one_ (i := 7) (N := some 40) z8j1 rfl rfl (one_of HT_.out (by kernel_rfl)) (by decide) (fun K hK => ?_)
      refine goes_ Tryd.func71 (by kernel_rfl) rfl #[.slice Ao42 y106.length co42] (by rfl) rfl rfl (by (try simp only [List.map_toArray, List.map_cons, List.map_nil]); first | done | rfl | (simp only [List.length_drop, List.length_take]; rfl)) ?_
      with_reducible refine (slices_Concat_ops.calls _ _ y106 t109 _ ?side1 ?side2 A33.out).mono ?_
      (case side1 => repeat (first | exact (Kd.N_reads' HO108.out).2.2 | (with_reducible refine Kd.C_alloc ?_ _) | (with_reducible refine Kd.C_drewN ?_ _) | (with_reducible refine Kd.C_drew ?_)))
      (case side2 => exact (Kd.N_reads' HO108.out).2.1)
      rintro e w43 ⟨v110, rfl, ho0, hb⟩
      refine ⟨_, rfl, ?_⟩
      replace HO_102001 := aM (Kd.V_elder' (by (with_reducible repeat (first | apply Kd.V_alloc | apply Kd.V_drewN | apply Kd.V_drew)); exact HO_102001.out) (Kd.R_base ho0) hb)
      replace HO_103001 := aM (Kd.V_elder' (by (with_reducible repeat (first | apply Kd.V_alloc | apply Kd.V_drewN | apply Kd.V_drew)); exact HO_103001.out) (Kd.R_base ho0) hb)
      replace HO108 := aM (Kd.N_elder' (by (with_reducible repeat (first | apply Kd.N_alloc | apply Kd.N_drewN | apply Kd.N_drew)); exact HO108.out) (Kd.R_base ho0) hb)
      have HO111 := aM (Kd.R_lower (Kd.R_newM (M := fun k_ => (w.heap.size ≤ k_)) ho0 (below_size (by repeat (first | (with_reducible first | exact HB.out | apply pA | apply pD | apply pE | refine sT ?_ GE101.out | refine sT ?_ GE102.out | refine sT ?_ GE103.out) | exact HB.out))) (fun k_ h_ => h_)) (below_size (by repeat (first | (with_reducible first | exact HB.out | apply pA | apply pD | apply pE | refine sT ?_ GE101.out | refine sT ?_ GE102.out | refine sT ?_ GE103.out) | exact HB.out))))
      replace B01 := aM (bD (g := gb101) (o := .cells #[.int .i64 a0_0, .slice A0_1 l0_1.length c0_1] 25 (0, 0)) (by (with_reducible repeat (first | refine bA ?_ _ | refine bB ?_ | refine bC ?_ _)); exact B01.out) hb)
      replace B02 := aM (bD (g := gb102) (o := .cells #[.int .i64 a1_0, .slice A1_1 l1_1.length c1_1] 25 (0, 0)) (by (with_reducible repeat (first | refine bA ?_ _ | refine bB ?_ | refine bC ?_ _)); exact B02.out) hb)
      replace B03 := aM (bD (g := gb103) (o := .cells #[.int .i64 0, .slice none 0 0] 25 (0, 0)) (by (with_reducible repeat (first | refine bA ?_ _ | refine bB ?_ | refine bC ?_ _)); exact B03.out) hb)
      replace HB := aM (below_step (by repeat (first | (with_reducible first | exact HB.out | apply pA | apply pD | apply pE | refine sT ?_ GE101.out | refine sT ?_ GE102.out | refine sT ?_ GE103.out) | exact HB.out)) hb)
      (try clear hb)
      (try clear hb2)
      (try clear hk)
      (try clear hi)
      (try clear ho0)
      obtain ⟨Ao44, co44, eo44⟩ := Kd.R_slice HO111.out
      (first | subst eo44 | (injection eo44 with f1_ f2_ f3_; have f4_ := f1_.symm; have f5_ := f3_.symm; clear f1_ f2_ f3_; subst f4_; subst f5_))
      refine hK.out _ _ ⟨(bE B01.out 0).trans rfl, (bE B01.out 1).trans rfl, (bE B02.out 0).trans rfl, (bE B02.out 1).trans rfl⟩ (fun hHeld => ?_)
      clear hK K
      refine norm_ (a' := ?_) ?_ ?_
      rotate_left
      ·show Act.put _ (some 40) _ = _
       simp only [Act.put, pSj1, i64_w]
       rfl
      refine pure_ (i := 8) (N := some 41) (v := ?_) (a' := ?_) z9j1 rfl rfl (any_of HT_.out (by kernel_rfl)) (fun _ _ _ h => h) (Or.inl ⟨by rfl, ?_⟩) ?_ ?_; rotate_left; (intro w'; go_simp; with_reducible rfl); rotate_left; (simp only [Act.put, pSj1, i64_w]; rfl)
      refine one_ (i := 9) (N := none) z10j1 rfl rfl (one_of HT_.out (by kernel_rfl)) (by decide) (fun K hK => ?_)
      have hs45 : w43.cell? ⟨gb103, 0, none⟩ = some (.int .i64 0) := (bE B03.out 0).trans rfl
      have hfs45 := bF B03.out 0
      have hns45_0 := NB101_103.out
      have hns45_1 := NB102_103.out
      have hms45_0 := NB103_101.out
      have hms45_1 := NB103_102.out
      have hs46 : w43.cell? ⟨gb103, 1, none⟩ = some (.slice none 0 0) := (bE B03.out 1).trans rfl
      have hfs46 := bF B03.out 1
      have hns46_0 := NB101_103.out
      have hns46_1 := NB102_103.out
      have hms46_0 := NB103_101.out
      have hms46_1 := NB103_102.out
      refine skip_ (w1 := ?_) (by rfl) rfl ?_ ?_
      rotate_left
      ·go_simp
       rfl
      refine hK.out _ _ ⟨((cell_far (p := ⟨gb103, _, none⟩) NB101_103.out _).trans (((cell_far (p := ⟨gb103, _, none⟩) NB101_103.out _).trans (hHeld.1)))), ((cell_far (p := ⟨gb103, _, none⟩) NB101_103.out _).trans (((cell_far (p := ⟨gb103, _, none⟩) NB101_103.out _).trans (hHeld.2.1)))), ((cell_far (p := ⟨gb103, _, none⟩) NB102_103.out _).trans (((cell_far (p := ⟨gb103, _, none⟩) NB102_103.out _).trans (hHeld.2.2.1)))), ((cell_far (p := ⟨gb103, _, none⟩) NB102_103.out _).trans (((cell_far (p := ⟨gb103, _, none⟩) NB102_103.out _).trans (hHeld.2.2.2))))⟩ (fun hHeld => ?_)
      clear hK K
      refine pure_ (i := 10) (N := some 5) (v := ?_) (a' := ?_) z11j1 rfl rfl (any_of HT_.out (by kernel_rfl)) (fun _ _ _ h => h) (Or.inl ⟨by rfl, ?_⟩) ?_ ?_; rotate_left; (intro w'; go_simp; with_reducible rfl); rotate_left; (simp only [Act.put, pSj1, i64_w]; rfl)
      refine done_ (done_of HT_.out (by kernel_rfl)) ?_
      try go_wp2
      refine bodyPost_ret (results_ct rfl _ _ gb103 25 #[.int .i64 a0_0, .slice Ao44 t109.length co44] (0, 0) _ rfl (by (with_reducible repeat (first | refine bA ?_ _ | refine bB ?_ | refine bC ?_ _)); refine blk_put (cs := #[.int .i64 a0_0, .slice none 0 0]) ?_ 1 _ rfl; (with_reducible repeat (first | refine bA ?_ _ | refine bB ?_ | refine bC ?_ _)); refine blk_put (cs := #[.int .i64 0, .slice none 0 0]) ?_ 0 _ rfl; (with_reducible repeat (first | refine bA ?_ _ | refine bB ?_ | refine bC ?_ _)); exact B03.out) Tryd.underlying25 rfl (by kernel_rfl)) rfl ?_
      exact ⟨_, by first | rfl | (simp [errW_none, errW_some] <;> rfl) | (simp [*, errW_none, errW_some] <;> rfl), by (with_reducible repeat (first | apply Kd.R_alloc | apply Kd.R_drewN | apply Kd.R_drew)); exact Kd.R_mono (Kd.R_far (p := ⟨gb103, 1, none⟩) (Kd.R_far (p := ⟨gb103, 0, none⟩) (Kd.R_types HO111.out B03.out (by decide)) (fun _ hk => hk.2) (.int .i64 a0_0)) (fun _ hk => hk.2) (.slice Ao44 t109.length co44)) (fun _ hk => hk.1.1), by repeat (first | (with_reducible first | exact HB.out | apply pA | apply pD | apply pE | refine sT ?_ GE101.out | refine sT ?_ GE102.out | refine sT ?_ GE103.out) | exact HB.out)⟩
    ·rw [if_neg c25] at H
     have c25b0 : (a0_0 == a1_0) = false := beq_eq_false_iff_ne.mpr c25
     have c25b1 : (a0_0 != a1_0) = true := bne_iff_ne.mpr c25
     simp only [Option.some.injEq, Prod.mk.injEq] at H
     obtain ⟨rfl, rfl, rfl⟩ := H
     have hnb47 := NB101_102.out
     have hnc47 := NB102_101.out
     have hnb48 := NB101_103.out
     have hnc48 := NB103_101.out
     have hcz49_0 : wc.cell? ⟨gb101, 0, none⟩ = some (.int .i64 a0_0) := (bE B01.out 0).trans rfl
     have hcz49_1 : wc.cell? ⟨gb101, 1, none⟩ = some (.slice A0_1 l0_1.length c0_1) := (bE B01.out 1).trans rfl
     have hfz49_0 := bF B01.out 0
     have hfz49_1 := bF B01.out 1
     have hnb50 := NB102_103.out
     have hnc50 := NB103_102.out
     have hcz51_0 : wc.cell? ⟨gb102, 0, none⟩ = some (.int .i64 a1_0) := (bE B02.out 0).trans rfl
     have hcz51_1 : wc.cell? ⟨gb102, 1, none⟩ = some (.slice A1_1 l1_1.length c1_1) := (bE B02.out 1).trans rfl
     have hfz51_0 := bF B02.out 0
     have hfz51_1 := bF B02.out 1
     have hcz52_0 : wc.cell? ⟨gb103, 0, none⟩ = some (.int .i64 0) := (bE B03.out 0).trans rfl
     have hcz52_1 : wc.cell? ⟨gb103, 1, none⟩ = some (.slice none 0 0) := (bE B03.out 1).trans rfl
     have hfz52_0 := bF B03.out 0
     have hfz52_1 := bF B03.out 1
     go_wp2
     refine bodyPost_ret (results_ct rfl _ _ gb103 25 #[.int .i64 0, .slice none 0 0] (0, 0) _ rfl (by (with_reducible repeat (first | refine bA ?_ _ | refine bB ?_ | refine bC ?_ _)); refine blk_put (cs := #[.int .i64 0, .slice none 0 0]) ?_ 1 _ rfl; (with_reducible repeat (first | refine bA ?_ _ | refine bB ?_ | refine bC ?_ _)); refine blk_put (cs := #[.int .i64 0, .slice none 0 0]) ?_ 0 _ rfl; (with_reducible repeat (first | refine bA ?_ _ | refine bB ?_ | refine bC ?_ _)); exact B03.out) Tryd.underlying25 rfl (by kernel_rfl)) rfl ?_
     exact ⟨_, by first | rfl | (simp [errW_none, errW_some] <;> rfl) | (simp [*, errW_none, errW_some] <;> rfl), by first | exact Kd.R_nil _ _ _ _ _ | exact Kd.N_nil _ _ _ _ _ | exact Kd.V_nil _ _ _ _ _ | exact Kd.Q_nil _ _ _ _ _ | exact Kd.S_nil _ _ _ _ _, by repeat (first | (with_reducible first | exact HB.out | apply pA | apply pD | apply pE | refine sT ?_ GE101.out | refine sT ?_ GE102.out | refine sT ?_ GE103.out) | exact HB.out)⟩

end Go.Proofs.YthfhnkpipdbekaaDoor.Tj
