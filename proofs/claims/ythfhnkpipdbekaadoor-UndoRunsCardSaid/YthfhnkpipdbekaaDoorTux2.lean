-- CUT by a program of this session: what the claim does not use is left out
import Derived.Test.YthfhnkpipdbekaaDoorUax0
import Derived.Test.YthfhnkpipdbekaaDoorProg
import Derived.Below
import Derived.Deep.Draws
import Derived.Deep.AppendLies
import Derived.Maps.AppendAt
import Derived.OwnWalk
import Derived.Laws.BytesArg
import Derived.Laws.MakeOwn
import Derived.Laws.OwnMore
import Derived.Deep.OwnRows
import Derived.Tactics
import Derived.Lib.ConvBytes
import Derived.Laws.Slices
import Derived.WalkKit
import Derived.KernelRfl
import Derived.RowKit3
import Derived.Deep.LoopGhost
import Derived.Deep.QuietTactic
import Derived.BigQuiet
import Derived.WideLaws
import Derived.Deep.DeepCutAuto
import Derived.Deep.CutBlock
import Derived.Deep.RegionHeld3
import Derived.Laws.Rows
import Derived.Lib.AppendStr
import Derived.ArgAppend
import Derived.Laws.IdiomCopy
import Derived.OrdersHeld
import Derived.Laws.BitsLemmas
import Derived.RowKit
import Derived.Test.YthfhnkpipdbekaaDoorN12
import Derived.Test.YthfhnkpipdbekaaDoorN6
import Derived.Test.YthfhnkpipdbekaaDoorWAll
import Derived.Test.YthfhnkpipdbekaaDoorTax5
import Derived.Test.YthfhnkpipdbekaaDoorTax6
import Derived.Test.YthfhnkpipdbekaaDoorTax11
import Derived.Test.YthfhnkpipdbekaaDoorTax12
import Derived.Test.YthfhnkpipdbekaaDoorTax13
import Derived.Test.YthfhnkpipdbekaaDoorTax2
import Derived.Test.YthfhnkpipdbekaaDoorTax3
import Derived.Test.YthfhnkpipdbekaaDoorTax4
import Derived.Test.YthfhnkpipdbekaaDoorTxx1
import Derived.Test.YthfhnkpipdbekaaDoorTxx2
import Derived.Test.YthfhnkpipdbekaaDoorTbx1
import Derived.Test.YthfhnkpipdbekaaDoorN15
import Derived.Test.YthfhnkpipdbekaaDoorTux1
namespace Go.Proofs.YthfhnkpipdbekaaDoor.Tu
open Go.Proofs.YthfhnkpipdbekaaDoor.Ua
open Go.Proofs.YthfhnkpipdbekaaDoor.Giv
open Go.Proofs.YthfhnkpipdbekaaDoor.Ta (undo_enumerable.f undo_enumerable.calls undo_final.f undo_final.calls undo_final.mono undo_Dirty.f undo_Dirty.calls undo_Dirty.mono undo_Inverse.f undo_Inverse.calls undo_Inverse.mono undo_Permutation.f undo_Permutation.mono undo_Restores.f undo_Restores.mono commodatumref12_op.f commodatumref12_op.calls commodatumref12_Valid.f commodatumref12_Valid.calls commodatumref12_Run.f commodatumref12_Run.calls commodatumref12_Inverse.f commodatumref12_Inverse.calls commodatumlaw12_Copy.f commodatumlaw12_Copy.calls commodatumref12_Join.f commodatumref12_Join.calls commodatumref12_Same.f commodatumref12_Same.calls commodatumref12_Equal.f commodatumref12_Equal.calls commodatumref12_Equal.mono)
open Go.Proofs.YthfhnkpipdbekaaDoor.Tx (slices_Index_string_string.f slices_Index_string_string.calls slices_Index_string_string.mono undo_numbers.f undo_numbers.mono)
open Go.Proofs.YthfhnkpipdbekaaDoor.Ui (bits_Input.f bits_Input.calls bits_Input.mono slices_Equal_bool_bool.f slices_Equal_bool_bool.calls slices_Equal_bool_bool.mono)
open Go.Proofs.YthfhnkpipdbekaaDoor.Tb (commodatumlaw12_Awake.f commodatumlaw12_Awake.calls commodatumlaw12_Awake.mono commodatumlaw12_Wide.f commodatumlaw12_Wide.calls)
open Go.RowKit Go.Proofs.YthfhnkpipdbekaaDoorW.PrintWords Go.Proofs.YthfhnkpipdbekaaDoorW.PrintLast Go.Proofs.YthfhnkpipdbekaaDoorW.PrintMore
attribute [local go_sem] max2_int min2_int max_two min_two max_three min_three max_four min_four   -- for this text's walks alone
set_option linter.unusedVariables false
set_option linter.unusedSimpArgs false

mutual
def commodatumlaw12_UndoRuns.j0 : Nat → List Bool → Bool → Int → List (S67) → Int → List (S67) → Option (Bool)
 | 0, _, _, _, _, _, _ => none
 | k + 1, x2, x29, x113000, x113001, x114000, x114001 => if x29 = true then ((commodatumlaw12_Awake.f k).bind fun t116 => (some t116)) else ((commodatumref12_Valid.f k x113000 x113001).bind fun t119 => (if t119 = true then ((commodatumref12_Inverse.f k x113000 x113001).bind fun bt120 => (if (x2.length : Int) = x113000 then ((commodatumref12_Run.f k x113000 x113001 x2).bind fun t124 => (commodatumlaw12_UndoRuns.j1 k x2 t124 0 0 1 x113000 x113001 x114000 x114001 bt120.1 bt120.2 0)) else (commodatumlaw12_UndoRuns.j1 k x2 ([] : List Bool) 2 0 1 x113000 x113001 x114000 x114001 bt120.1 bt120.2 0))) else (commodatumlaw12_UndoRuns.j2 k x2 ([] : List Bool) 1 1 1 x113000 x113001 x114000 x114001 0 ([] : List (S67)) 0 ([] : List (S67)))))
def commodatumlaw12_UndoRuns.j2 : Nat → List Bool → List Bool → Int → Int → Int → Int → List (S67) → Int → List (S67) → Int → List (S67) → Int → List (S67) → Option (Bool)
 | 0, _, _, _, _, _, _, _, _, _, _, _, _, _ => none
 | k + 1, x2, x7, x10, x11, x12, x113000, x113001, x114000, x114001, x118000, x118001, x119000, x119001 => (commodatumlaw12_Copy.f x113000 x113001).bind fun bt132 => ((some (([] : List Bool) : List Bool)).bind fun y136 => (if y136.length + x2.length < 140737488355328 then ((undo_Run.f bt132.1 bt132.2 (y136 ++ x2)).bind fun bt142 => ((commodatumlaw12_Copy.f x113000 x113001).bind fun bt146 => ((undo_Inverse.f k bt146.1 bt146.2).bind fun bt150 => ((commodatumlaw12_Copy.f x113000 x113001).bind fun bt156 => ((commodatumlaw12_Copy.f x114000 x114001).bind fun bt160 => ((undo_Join.f k bt156.1 bt156.2 bt160.1 bt160.2).bind fun bt164 => (if bt142.2 = x10 then ((commodatumref12_Equal.f k bt142.1 x7).bind fun t170 => (if t170 = true then (if bt150.2.2 = x11 then ((commodatumref12_Same.f k bt150.1 bt150.2.1 x118000 x118001).bind fun t171 => (if t171 = true then (if bt164.2.2 = x12 then ((commodatumref12_Same.f k bt164.1 bt164.2.1 x119000 x119001).bind fun t172 => (if t172 = true then ((commodatumlaw12_Awake.f k).bind fun t173 => (some t173)) else (none))) else (none)) else (none))) else (none)) else (none))) else (none)))))))) else (none)))
def commodatumlaw12_UndoRuns.j1 : Nat → List Bool → List Bool → Int → Int → Int → Int → List (S67) → Int → List (S67) → Int → List (S67) → Int → Option (Bool)
 | 0, _, _, _, _, _, _, _, _, _, _, _, _ => none
 | k + 1, x2, x7, x10, x11, x12, x113000, x113001, x114000, x114001, x118000, x118001, x119000 => (commodatumref12_Valid.f k x114000 x114001).bind fun t127 => (if t127 = true then (if x113000 = x114000 then ((commodatumref12_Join.f x113000 x113001 x114000 x114001).bind fun bt128 => (commodatumlaw12_UndoRuns.j2 k x2 x7 x10 x11 0 x113000 x113001 x114000 x114001 x118000 x118001 bt128.1 bt128.2)) else (commodatumlaw12_UndoRuns.j2 k x2 x7 x10 x11 2 x113000 x113001 x114000 x114001 x118000 x118001 x119000 ([] : List (S67)))) else (commodatumlaw12_UndoRuns.j2 k x2 x7 x10 x11 x12 x113000 x113001 x114000 x114001 x118000 x118001 x119000 ([] : List (S67))))
end
def commodatumlaw12_UndoRuns.f (k : Nat) (a0_0 : Int) (l0_1 : List (S67)) (a1_0 : Int) (l1_1 : List (S67)) (l2 : List Bool) : Option (Bool) := (commodatumlaw12_Wide.f a0_0 l0_1).bind fun t114 => (if t114 = true then (commodatumlaw12_UndoRuns.j0 k l2 true a0_0 l0_1 a1_0 l1_1) else ((commodatumlaw12_Wide.f a1_0 l1_1).bind fun t115 => (if t115 = true then (commodatumlaw12_UndoRuns.j0 k l2 true a0_0 l0_1 a1_0 l1_1) else (commodatumlaw12_UndoRuns.j0 k l2 (decide ((l2.length : Int) > 2000)) a0_0 l0_1 a1_0 l1_1))))
def commodatumlaw12_UndoRuns.T17 : Bool × List (List Nat × List Nat) := (true, [([], []), ([0], [0]), ([], []), ([2, 1], [2]), ([1, 3, 3], [1, 3]), ([4], [4]), ([5], [5]), ([5], [5]), ([], []), ([8, 6, 4, 0, 1, 2, 3, 4, 5, 6, 8], [6, 8]), ([7, 9, 0, 1, 2, 3, 4, 5, 6, 7, 8, 9], [7])])
def commodatumlaw12_UndoRuns.B17 : List Nat := [0, 1, 0, 7, 15, 31, 63, 63, 0, 383, 1023]
theorem commodatumlaw12_UndoRuns.tab17 : rtab .any (opsOf Tryd.f10 17) = commodatumlaw12_UndoRuns.T17 := by kernel_rfl
theorem commodatumlaw12_UndoRuns.bits17 : waitsOk commodatumlaw12_UndoRuns.T17.2 commodatumlaw12_UndoRuns.B17 = true := by kernel_rfl
theorem pSu2 {α : Type} : (∀ (l : List α) (i : Nat) (a : α), l.toArray.setIfInBounds i a = (l.set i a).toArray) ∧ (∀ (l : List α) (x y : α), (x :: l).set 0 y = y :: l) ∧ (∀ (l : List α) (x y : α) (n : Nat), (x :: l).set (n + 1) y = x :: l.set n y) :=
 ⟨fun _ _ _ => List.setIfInBounds_toArray .., fun _ _ _ => rfl, fun _ _ _ _ => rfl⟩
open Bool renaming true → T, false → F
open Go.Proofs.YthfhnkpipdbekaaDoorW.PrintWords renaming Kd.R_alloc → rA, Kd.R_drewN → rB, Kd.R_drew → rC, blk_drewN → bA, blk_drew → bB, blk_alloc → bC, below_set → sT, Aside0.mk → aM, pw_below_drewN → pD, below_drew1 → pE, below_alloc → pA, blk_below → bD, Kd.R_below → rD, blk_cell → bE, blk_frozen → bF, blk_far → bG, below_step → pS_, Kd.R_mono → rE, Kd.C_alloc → cA, Kd.C_drewN → cB, Kd.C_drew → cC, Kd.C_below → cD
abbrev z0u2 : Array Bool := #[F,F,F,F,F,F,F,F,F,F,F]
abbrev z1u2 : Array Bool := #[T,F,F,F,F,F,F,F,F,F,F]
abbrev z2u2 : Array Bool := #[T,F,T,F,F,F,F,F,F,F,F]
abbrev z3u2 : Array Bool := #[T,T,T,T,T,T,T,T,T,F,F]
abbrev z4u2 : Array Bool := #[T,T,T,F,F,F,F,F,F,F,F]
abbrev z5u2 : Array Bool := #[T,F,T,F,F,F,F,F,T,F,F]
abbrev z6u2 : Array Bool := #[T,T,T,T,F,F,F,F,F,F,F]
abbrev z7u2 : Array Bool := #[T,T,T,F,F,F,F,F,T,F,F]
abbrev z8u2 : Array Bool := #[T,T,T,T,T,F,F,F,F,F,F]
abbrev z9u2 : Array Bool := #[T,T,T,T,F,F,F,F,T,F,F]
abbrev z10u2 : Array Bool := #[T,T,T,T,T,T,F,F,F,F,F]
abbrev z11u2 : Array Bool := #[T,T,T,T,T,T,T,F,F,F,F]
abbrev z12u2 : Array Bool := #[T,T,T,T,T,T,T,T,F,F,F]
abbrev z13u2 : Array Bool := #[T,T,T,T,T,F,F,F,T,F,F]
abbrev z14u2 : Array Bool := #[T,T,T,T,T,T,F,F,T,F,F]
abbrev z15u2 : Array Bool := #[T,T,T,T,T,T,T,F,T,F,F]
abbrev z16u2 : Array Bool := #[T,T,T,T,T,T,T,T,T,T,F]
abbrev z17u2 : Array Bool := #[T,T,T,T,T,T,T,T,T,T,T]
set_option maxHeartbeats 8000000 in
set_option maxRecDepth 100000 in
theorem commodatumlaw12_UndoRuns.calls (k : Nat) (a0_0 : Int) (A0_1 : Option Addr) (c0_1 : Nat) (l0_1 : List (S67)) (a1_0 : Int) (A1_1 : Option Addr) (c1_1 : Nat) (l1_1 : List (S67)) (A2 : Option Addr) (c2 : Nat) (l2 : List Bool) (r : Bool) (w : World) (hr0_1 : Kd.C k67 w A0_1 l0_1.length l0_1) (hc0_1 : l0_1.length ≤ c0_1) (hr1_1 : Kd.C k67 w A1_1 l1_1.length l1_1) (hc1_1 : l1_1.length ≤ c1_1) (hr2 : Kd.C Kd.bool w A2 l2.length l2) (hc2 : l2.length ≤ c2) (hlay : Laid w) (h : commodatumlaw12_UndoRuns.f k a0_0 l0_1 a1_0 l1_1 l2 = some r) :
  Calls Tryd.prog 10 #[.agg #[.int .i64 a0_0, .slice A0_1 l0_1.length c0_1], .agg #[.int .i64 a1_0, .slice A1_1 l1_1.length c1_1], .slice A2 l2.length c2] w fun e w' => e = .returned (.bool r) ∧ Below w.heap.size w w' := by
 have hu25 := Tryd.underlying25
 have HR0_1 := aM hr0_1
 have HC0_1 := aM hc0_1
 clear hr0_1 hc0_1
 have HR1_1 := aM hr1_1
 have HC1_1 := aM hc1_1
 clear hr1_1 hc1_1
 have HR2 := aM hr2
 have HC2 := aM hc2
 clear hr2 hc2
 have HB := aM (Below.refl w.heap.size w)
 have HLAY := aM hlay
 clear hlay
 have H : ((commodatumlaw12_Wide.f a0_0 l0_1).bind fun t114 => (if t114 = true then (commodatumlaw12_UndoRuns.j0 k l2 true a0_0 l0_1 a1_0 l1_1) else ((commodatumlaw12_Wide.f a1_0 l1_1).bind fun t115 => (if t115 = true then (commodatumlaw12_UndoRuns.j0 k l2 true a0_0 l0_1 a1_0 l1_1) else (commodatumlaw12_UndoRuns.j0 k l2 (decide ((l2.length : Int) > 2000)) a0_0 l0_1 a1_0 l1_1))))) = some r := h
 clear h
 have HC4 := aM H
 clear H
 go_enter Tryd.func10, Tryd.ntmps10
 go_upto_region 1 with (first | ((with_reducible refine gate_dst (N := 3) rfl ?_); (try (refine gate_guard (by rfl) ?_; dsimp only)); refine box_event ?hg (N := 3) ?hd (cs := #[.int .i64 a0_0, .slice A0_1 l0_1.length c0_1]) (t := 25) ?hr ?_; (case hd => rfl); (case hg => rfl); (case hr => first | (go_simp; done) | (go_simp; rfl)); intro gb112 hg w5 hbox hb; have B12 := aM (hbox); have GW112 := aM ((by rw [hg]; exact (below_size (by (with_reducible apply_rules [HB.out, pA, pD, pE]))) : w.heap.size ≤ gb112)); have GE112 := aM ((by rw [hg]; exact (below_size (by (with_reducible apply_rules [HB.out, pA, pD, pE]))) : w.heap.size ≤ gb112)); replace HB := aM (pS_ (by (with_reducible apply_rules [HB.out, pA, pD, pE])) hb); clear hb hbox hg) | ((with_reducible refine gate_dst (N := 4) rfl ?_); (try (refine gate_guard (by rfl) ?_; dsimp only)); refine box_event ?hg (N := 4) ?hd (cs := #[.int .i64 a1_0, .slice A1_1 l1_1.length c1_1]) (t := 25) ?hr ?_; (case hd => rfl); (case hg => rfl); (case hr => first | (go_simp; done) | (go_simp; rfl)); intro gb113 hg w6 hbox hb; have B13 := aM (hbox); have GW113 := aM ((by rw [hg]; exact (below_size (by (with_reducible apply_rules [HB.out, pA, pD, pE, sT, GE112.out]))) : w.heap.size ≤ gb113)); have GE113 := aM ((by rw [hg]; exact (below_size (by (with_reducible apply_rules [HB.out, pA, pD, pE, sT, GE112.out]))) : w.heap.size ≤ gb113)); replace HB := aM (pS_ (by (with_reducible apply_rules [HB.out, pA, pD, pE, sT, GE112.out])) hb); have NB112_113 := aM ((by rw [hg]; exact Nat.ne_of_lt (blk_lt (g := gb112) (o := .cells #[.int .i64 a0_0, .slice A0_1 l0_1.length c0_1] 25 (0, 0)) (by with_reducible apply_rules [B12.out, bA, bB, bC])) : gb112 ≠ gb113)); have NB113_112 := aM ((by rw [hg]; exact Nat.ne_of_gt (blk_lt (g := gb112) (o := .cells #[.int .i64 a0_0, .slice A0_1 l0_1.length c0_1] 25 (0, 0)) (by with_reducible apply_rules [B12.out, bA, bB, bC])) : gb113 ≠ gb112)); replace B12 := aM (bD (g := gb112) (o := .cells #[.int .i64 a0_0, .slice A0_1 l0_1.length c0_1] 25 (0, 0)) (by with_reducible apply_rules [B12.out, bA, bB, bC]) hb); clear hb hbox hg))
 (try simp only [Act.put, List.setIfInBounds_toArray, List.set_cons_zero, List.set_cons_succ])
 go_cut [29] (fun v29 wc => ∃ (kq : Nat) (x29_3 : Bool), v29 = .bool x29_3 ∧ Aside0 (commodatumlaw12_UndoRuns.j0 kq l2 x29_3 a0_0 l0_1 a1_0 l1_1 = some r) ∧ Aside0 (kq ≤ k) ∧ Aside0 (wc.heap[gb112]? = some (.cells #[.int .i64 a0_0, (.slice A0_1 l0_1.length c0_1)] 25 (0, 0))) ∧ Aside0 (wc.heap[gb113]? = some (.cells #[.int .i64 a1_0, (.slice A1_1 l1_1.length c1_1)] 25 (0, 0))) ∧ Aside0 (Below w.heap.size w wc))
 case first =>
  have H := HC4.out
  clear HC4
  replace H := Option.bind_eq_some_iff.mp H
  obtain ⟨t114, A70, H⟩ := H
  replace H : (if t114 = true then (commodatumlaw12_UndoRuns.j0 k l2 true a0_0 l0_1 a1_0 l1_1) else ((commodatumlaw12_Wide.f a1_0 l1_1).bind fun t115 => (if t115 = true then (commodatumlaw12_UndoRuns.j0 k l2 true a0_0 l0_1 a1_0 l1_1) else (commodatumlaw12_UndoRuns.j0 k l2 (decide ((l2.length : Int) > 2000)) a0_0 l0_1 a1_0 l1_1)))) = some r := H
  have A7 := aM A70
  clear A70
  by_cases c8 : t114 = true
  ·subst c8
   have H1 : (commodatumlaw12_UndoRuns.j0 k l2 true a0_0 l0_1 a1_0 l1_1) = some r := by rw [if_pos rfl] at H; exact H
   clear H
   have H := H1
   clear H1
   have H' := aM H
   clear H
   have hnb9 := NB112_113.out
   have hnc9 := NB113_112.out
   have hcz10_0 : w6.cell? ⟨gb112, 0, none⟩ = some (.int .i64 a0_0) := (bE B12.out 0).trans rfl
   have hcz10_1 : w6.cell? ⟨gb112, 1, none⟩ = some (.slice A0_1 l0_1.length c0_1) := (bE B12.out 1).trans rfl
   have hfz10_0 := bF B12.out 0
   have hfz10_1 := bF B12.out 1
   go_wp2_with (first | ((with_reducible refine gate_callee (f := 17) rfl ?_); refine goesL_ (some 20) rfl rfl Tryd.func17 (by kernel_rfl) rfl #[.agg #[.int .i64 a0_0, .slice A0_1 l0_1.length c0_1]] rfl (by (try simp only [List.map_toArray, List.map_cons, List.map_nil]); first | done | rfl | (simp only [List.length_drop, List.length_take]; rfl)) ?_; (with_reducible refine (commodatumlaw12_Wide.calls a0_0 _ _ l0_1 true _ ?side1 ?side2 A7.out).mono ?_); (case side1 => with_reducible apply_rules [(cD HR0_1.out HB.out), cA, cB, cC]); (case side2 => exact HC0_1.out); rintro e w11 ⟨rfl, hb⟩; refine ⟨_, rfl, ?_⟩; replace B12 := aM (bD (g := gb112) (o := .cells #[.int .i64 a0_0, .slice A0_1 l0_1.length c0_1] 25 (0, 0)) (by with_reducible apply_rules [B12.out, bA, bB, bC]) hb); replace B13 := aM (bD (g := gb113) (o := .cells #[.int .i64 a1_0, .slice A1_1 l1_1.length c1_1] 25 (0, 0)) (by with_reducible apply_rules [B13.out, bA, bB, bC]) hb); replace HB := aM (pS_ (by (with_reducible apply_rules [HB.out, pA, pD, pE, sT, GE112.out, GE113.out])) hb); (try clear hb); (try clear hb2); (try clear hk); (try clear hi)))
   go_meet
   case rel => exact ⟨_, (true), (by first | rfl | (simp; done) | (simp [*]; done)), H', ⟨by first | omega | exact Nat.le_refl _⟩, ⟨by with_reducible apply_rules [B12.out, bA, bB, bC]⟩, ⟨by with_reducible apply_rules [B13.out, bA, bB, bC]⟩, ⟨by (with_reducible apply_rules [HB.out, pA, pD, pE, sT, GE112.out, GE113.out])⟩⟩
  ·replace c8 := Bool.eq_false_iff.mpr c8
   subst c8
   have H1 : ((commodatumlaw12_Wide.f a1_0 l1_1).bind fun t115 => (if t115 = true then (commodatumlaw12_UndoRuns.j0 k l2 true a0_0 l0_1 a1_0 l1_1) else (commodatumlaw12_UndoRuns.j0 k l2 (decide ((l2.length : Int) > 2000)) a0_0 l0_1 a1_0 l1_1))) = some r := by rw [if_neg (show ¬ (false = true) by decide)] at H; exact H
   clear H
   have H := H1
   clear H1
   replace H := Option.bind_eq_some_iff.mp H
   obtain ⟨t115, A120, H⟩ := H
   replace H : (if t115 = true then (commodatumlaw12_UndoRuns.j0 k l2 true a0_0 l0_1 a1_0 l1_1) else (commodatumlaw12_UndoRuns.j0 k l2 (decide ((l2.length : Int) > 2000)) a0_0 l0_1 a1_0 l1_1)) = some r := H
   have A12 := aM A120
   clear A120
   by_cases c13 : t115 = true
   ·subst c13
    have H1 : (commodatumlaw12_UndoRuns.j0 k l2 true a0_0 l0_1 a1_0 l1_1) = some r := by rw [if_pos rfl] at H; exact H
    clear H
    have H := H1
    clear H1
    have H' := aM H
    clear H
    have hnb14 := NB112_113.out
    have hnc14 := NB113_112.out
    have hcz15_0 : w6.cell? ⟨gb112, 0, none⟩ = some (.int .i64 a0_0) := (bE B12.out 0).trans rfl
    have hcz15_1 : w6.cell? ⟨gb112, 1, none⟩ = some (.slice A0_1 l0_1.length c0_1) := (bE B12.out 1).trans rfl
    have hfz15_0 := bF B12.out 0
    have hfz15_1 := bF B12.out 1
    go_wp2_with (first | ((with_reducible refine gate_callee (f := 17) rfl ?_); refine goesL_ (some 20) rfl rfl Tryd.func17 (by kernel_rfl) rfl #[.agg #[.int .i64 a0_0, .slice A0_1 l0_1.length c0_1]] rfl (by (try simp only [List.map_toArray, List.map_cons, List.map_nil]); first | done | rfl | (simp only [List.length_drop, List.length_take]; rfl)) ?_; (with_reducible refine (commodatumlaw12_Wide.calls a0_0 _ _ l0_1 false _ ?side1 ?side2 A7.out).mono ?_); (case side1 => with_reducible apply_rules [(cD HR0_1.out HB.out), cA, cB, cC]); (case side2 => exact HC0_1.out); rintro e w16 ⟨rfl, hb⟩; refine ⟨_, rfl, ?_⟩; replace B12 := aM (bD (g := gb112) (o := .cells #[.int .i64 a0_0, .slice A0_1 l0_1.length c0_1] 25 (0, 0)) (by with_reducible apply_rules [B12.out, bA, bB, bC]) hb); replace B13 := aM (bD (g := gb113) (o := .cells #[.int .i64 a1_0, .slice A1_1 l1_1.length c1_1] 25 (0, 0)) (by with_reducible apply_rules [B13.out, bA, bB, bC]) hb); replace HB := aM (pS_ (by (with_reducible apply_rules [HB.out, pA, pD, pE, sT, GE112.out, GE113.out])) hb); (try clear hb); (try clear hb2); (try clear hk); (try clear hi); have hcz17_0 : w16.cell? ⟨gb113, 0, none⟩ = some (.int .i64 a1_0) := (bE B13.out 0).trans rfl; have hcz17_1 : w16.cell? ⟨gb113, 1, none⟩ = some (.slice A1_1 l1_1.length c1_1) := (bE B13.out 1).trans rfl; have hfz17_0 := bF B13.out 0; have hfz17_1 := bF B13.out 1) | (go_at_call 17; (with_reducible refine (commodatumlaw12_Wide.calls a1_0 _ _ l1_1 true _ ?side1 ?side2 A12.out).mono ?_); (case side1 => with_reducible apply_rules [(cD HR1_1.out HB.out), cA, cB, cC]); (case side2 => exact HC1_1.out); rintro e w18 ⟨rfl, hb⟩; replace B12 := aM (bD (g := gb112) (o := .cells #[.int .i64 a0_0, .slice A0_1 l0_1.length c0_1] 25 (0, 0)) (by with_reducible apply_rules [B12.out, bA, bB, bC]) hb); replace B13 := aM (bD (g := gb113) (o := .cells #[.int .i64 a1_0, .slice A1_1 l1_1.length c1_1] 25 (0, 0)) (by with_reducible apply_rules [B13.out, bA, bB, bC]) hb); replace HB := aM (pS_ (by (with_reducible apply_rules [HB.out, pA, pD, pE, sT, GE112.out, GE113.out])) hb); (try clear hb); (try clear hb2); (try clear hk); (try clear hi)))
    go_meet
    case rel => exact ⟨_, (true), (by first | rfl | (simp; done) | (simp [*]; done)), H', ⟨by first | omega | exact Nat.le_refl _⟩, ⟨by with_reducible apply_rules [B12.out, bA, bB, bC]⟩, ⟨by with_reducible apply_rules [B13.out, bA, bB, bC]⟩, ⟨by (with_reducible apply_rules [HB.out, pA, pD, pE, sT, GE112.out, GE113.out])⟩⟩
   ·replace c13 := Bool.eq_false_iff.mpr c13
    subst c13
    have H1 : (commodatumlaw12_UndoRuns.j0 k l2 (decide ((l2.length : Int) > 2000)) a0_0 l0_1 a1_0 l1_1) = some r := by rw [if_neg (show ¬ (false = true) by decide)] at H; exact H
    clear H
    have H := H1
    clear H1
    have H' := aM H
    clear H
    have hnb19 := NB112_113.out
    have hnc19 := NB113_112.out
    have hcz20_0 : w6.cell? ⟨gb112, 0, none⟩ = some (.int .i64 a0_0) := (bE B12.out 0).trans rfl
    have hcz20_1 : w6.cell? ⟨gb112, 1, none⟩ = some (.slice A0_1 l0_1.length c0_1) := (bE B12.out 1).trans rfl
    have hfz20_0 := bF B12.out 0
    have hfz20_1 := bF B12.out 1
    go_wp2_with (first | ((with_reducible refine gate_callee (f := 17) rfl ?_); refine goesL_ (some 20) rfl rfl Tryd.func17 (by kernel_rfl) rfl #[.agg #[.int .i64 a0_0, .slice A0_1 l0_1.length c0_1]] rfl (by (try simp only [List.map_toArray, List.map_cons, List.map_nil]); first | done | rfl | (simp only [List.length_drop, List.length_take]; rfl)) ?_; (with_reducible refine (commodatumlaw12_Wide.calls a0_0 _ _ l0_1 false _ ?side1 ?side2 A7.out).mono ?_); (case side1 => with_reducible apply_rules [(cD HR0_1.out HB.out), cA, cB, cC]); (case side2 => exact HC0_1.out); rintro e w21 ⟨rfl, hb⟩; refine ⟨_, rfl, ?_⟩; replace B12 := aM (bD (g := gb112) (o := .cells #[.int .i64 a0_0, .slice A0_1 l0_1.length c0_1] 25 (0, 0)) (by with_reducible apply_rules [B12.out, bA, bB, bC]) hb); replace B13 := aM (bD (g := gb113) (o := .cells #[.int .i64 a1_0, .slice A1_1 l1_1.length c1_1] 25 (0, 0)) (by with_reducible apply_rules [B13.out, bA, bB, bC]) hb); replace HB := aM (pS_ (by (with_reducible apply_rules [HB.out, pA, pD, pE, sT, GE112.out, GE113.out])) hb); (try clear hb); (try clear hb2); (try clear hk); (try clear hi); have hcz22_0 : w21.cell? ⟨gb113, 0, none⟩ = some (.int .i64 a1_0) := (bE B13.out 0).trans rfl; have hcz22_1 : w21.cell? ⟨gb113, 1, none⟩ = some (.slice A1_1 l1_1.length c1_1) := (bE B13.out 1).trans rfl; have hfz22_0 := bF B13.out 0; have hfz22_1 := bF B13.out 1) | (go_at_call 17; (with_reducible refine (commodatumlaw12_Wide.calls a1_0 _ _ l1_1 false _ ?side1 ?side2 A12.out).mono ?_); (case side1 => with_reducible apply_rules [(cD HR1_1.out HB.out), cA, cB, cC]); (case side2 => exact HC1_1.out); rintro e w23 ⟨rfl, hb⟩; replace B12 := aM (bD (g := gb112) (o := .cells #[.int .i64 a0_0, .slice A0_1 l0_1.length c0_1] 25 (0, 0)) (by with_reducible apply_rules [B12.out, bA, bB, bC]) hb); replace B13 := aM (bD (g := gb113) (o := .cells #[.int .i64 a1_0, .slice A1_1 l1_1.length c1_1] 25 (0, 0)) (by with_reducible apply_rules [B13.out, bA, bB, bC]) hb); replace HB := aM (pS_ (by (with_reducible apply_rules [HB.out, pA, pD, pE, sT, GE112.out, GE113.out])) hb); (try clear hb); (try clear hb2); (try clear hk); (try clear hi)))
    go_meet
    case rel => exact ⟨_, (decide ((l2.length : Int) > 2000)), (by first | rfl | (simp; done) | (simp [*]; done)), H', ⟨by first | omega | exact Nat.le_refl _⟩, ⟨by with_reducible apply_rules [B12.out, bA, bB, bC]⟩, ⟨by with_reducible apply_rules [B13.out, bA, bB, bC]⟩, ⟨by (with_reducible apply_rules [HB.out, pA, pD, pE, sT, GE112.out, GE113.out])⟩⟩
 case rest =>
  clear HC4
  try clear c1
  try clear c2
  try clear p2
  try clear c8
  try clear c9
  try clear c10
  try clear c13
  try clear c14
  try clear c17
  try clear c19
  try clear hcz10_0
  try clear hcz10_1
  try clear hcz15_0
  try clear hcz15_1
  try clear hcz17_0
  try clear hcz17_1
  try clear hcz20_0
  try clear hcz20_1
  try clear hcz22_0
  try clear hcz22_1
  try clear hfz10_0
  try clear hfz10_1
  try clear hfz15_0
  try clear hfz15_1
  try clear hfz17_0
  try clear hfz17_1
  try clear hfz20_0
  try clear hfz20_1
  try clear hfz22_0
  try clear hfz22_1
  obtain ⟨kq, x29_3, rfl, HA, HJ3, B12, B13, HB⟩ := hcut
  cases kq with
  | zero => exact absurd HA.out (by simp [commodatumlaw12_UndoRuns.j0])
  | succ kj3 =>
   have H := HA.out
   clear HA
   simp only [commodatumlaw12_UndoRuns.j0] at H
   by_cases c24 : x29_3 = true
   ·subst c24
    have H1 : ((commodatumlaw12_Awake.f kj3).bind fun t116 => (some t116)) = some r := by rw [if_pos rfl] at H; exact H
    clear H
    have H := H1
    clear H1
    replace H := Option.bind_eq_some_iff.mp H
    obtain ⟨t116, A250, H⟩ := H
    replace H : (some t116) = some r := H
    have A25 := aM A250
    clear A250
    obtain rfl := Option.some.inj H
    go_wp2_with (first | ((with_reducible refine gate_callee (f := 12) rfl ?_); refine goesL_ (some 30) rfl rfl Tryd.func12 (by kernel_rfl) rfl #[] rfl (by (try simp only [List.map_toArray, List.map_cons, List.map_nil]); first | done | rfl | (simp only [List.length_drop, List.length_take]; rfl)) ?_; (with_reducible refine (commodatumlaw12_Awake.calls kj3  t116 _ ?side1 A25.out).mono ?_); (case side1 => exact Laid.below HLAY.out (by (with_reducible apply_rules [HB.out, pA, pD, pE, sT, GE112.out, GE113.out]))); rintro e w26 ⟨rfl, hb⟩; refine ⟨_, rfl, ?_⟩; replace B12 := aM (bD (g := gb112) (o := .cells #[.int .i64 a0_0, .slice A0_1 l0_1.length c0_1] 25 (0, 0)) (by with_reducible apply_rules [B12.out, bA, bB, bC]) hb); replace B13 := aM (bD (g := gb113) (o := .cells #[.int .i64 a1_0, .slice A1_1 l1_1.length c1_1] 25 (0, 0)) (by with_reducible apply_rules [B13.out, bA, bB, bC]) hb); replace HB := aM (pS_ (by (with_reducible apply_rules [HB.out, pA, pD, pE, sT, GE112.out, GE113.out])) hb); (try clear hb); (try clear hb2); (try clear hk); (try clear hi)))
    go_ret
    exact ⟨by first | rfl | (simp [errW_none, errW_some] <;> rfl) | (simp [*, errW_none, errW_some] <;> rfl), by (with_reducible apply_rules [HB.out, pA, pD, pE, sT, GE112.out, GE113.out])⟩
   ·replace c24 := Bool.eq_false_iff.mpr c24
    subst c24
    have H1 : ((commodatumref12_Valid.f kj3 a0_0 l0_1).bind fun t119 => (if t119 = true then ((commodatumref12_Inverse.f kj3 a0_0 l0_1).bind fun bt120 => (if (l2.length : Int) = a0_0 then ((commodatumref12_Run.f kj3 a0_0 l0_1 l2).bind fun t124 => (commodatumlaw12_UndoRuns.j1 kj3 l2 t124 0 0 1 a0_0 l0_1 a1_0 l1_1 bt120.1 bt120.2 0)) else (commodatumlaw12_UndoRuns.j1 kj3 l2 ([] : List Bool) 2 0 1 a0_0 l0_1 a1_0 l1_1 bt120.1 bt120.2 0))) else (commodatumlaw12_UndoRuns.j2 kj3 l2 ([] : List Bool) 1 1 1 a0_0 l0_1 a1_0 l1_1 0 ([] : List (S67)) 0 ([] : List (S67))))) = some r := by rw [if_neg (show ¬ (false = true) by decide)] at H; exact H
    clear H
    have H := H1
    clear H1
    replace H := Option.bind_eq_some_iff.mp H
    obtain ⟨t119, A270, H⟩ := H
    replace H : (if t119 = true then ((commodatumref12_Inverse.f kj3 a0_0 l0_1).bind fun bt120 => (if (l2.length : Int) = a0_0 then ((commodatumref12_Run.f kj3 a0_0 l0_1 l2).bind fun t124 => (commodatumlaw12_UndoRuns.j1 kj3 l2 t124 0 0 1 a0_0 l0_1 a1_0 l1_1 bt120.1 bt120.2 0)) else (commodatumlaw12_UndoRuns.j1 kj3 l2 ([] : List Bool) 2 0 1 a0_0 l0_1 a1_0 l1_1 bt120.1 bt120.2 0))) else (commodatumlaw12_UndoRuns.j2 kj3 l2 ([] : List Bool) 1 1 1 a0_0 l0_1 a1_0 l1_1 0 ([] : List (S67)) 0 ([] : List (S67)))) = some r := H
    have A27 := aM A270
    clear A270
    have HC28 := aM H
    clear H
    go_upto_if 34 with (first | ((with_reducible refine gate_dst (N := 8) rfl ?_); (try (refine gate_guard (by rfl) ?_; dsimp only)); refine box_event ?hg (N := 8) ?hd (cs := #[.int .i64 0, .slice none 0 0]) (t := 25) ?hr ?_; (case hd => rfl); (case hg => rfl); (case hr => first | (go_simp; done) | (go_simp; rfl)); intro gb117 hg w29 hbox hb; have B17 := aM (hbox); have GW117 := aM ((by rw [hg]; exact (below_size (by (with_reducible apply_rules [HB.out, pA, pD, pE, sT, GE112.out, GE113.out]))) : w.heap.size ≤ gb117)); have GE117 := aM ((by rw [hg]; exact (below_size (by (with_reducible apply_rules [HB.out, pA, pD, pE, sT, GE112.out, GE113.out]))) : w.heap.size ≤ gb117)); replace HB := aM (pS_ (by (with_reducible apply_rules [HB.out, pA, pD, pE, sT, GE112.out, GE113.out])) hb); have NB112_117 := aM ((by rw [hg]; exact Nat.ne_of_lt (blk_lt (g := gb112) (o := .cells #[.int .i64 a0_0, .slice A0_1 l0_1.length c0_1] 25 (0, 0)) (by with_reducible apply_rules [B12.out, bA, bB, bC])) : gb112 ≠ gb117)); have NB117_112 := aM ((by rw [hg]; exact Nat.ne_of_gt (blk_lt (g := gb112) (o := .cells #[.int .i64 a0_0, .slice A0_1 l0_1.length c0_1] 25 (0, 0)) (by with_reducible apply_rules [B12.out, bA, bB, bC])) : gb117 ≠ gb112)); replace B12 := aM (bD (g := gb112) (o := .cells #[.int .i64 a0_0, .slice A0_1 l0_1.length c0_1] 25 (0, 0)) (by with_reducible apply_rules [B12.out, bA, bB, bC]) hb); have NB113_117 := aM ((by rw [hg]; exact Nat.ne_of_lt (blk_lt (g := gb113) (o := .cells #[.int .i64 a1_0, .slice A1_1 l1_1.length c1_1] 25 (0, 0)) (by with_reducible apply_rules [B13.out, bA, bB, bC])) : gb113 ≠ gb117)); have NB117_113 := aM ((by rw [hg]; exact Nat.ne_of_gt (blk_lt (g := gb113) (o := .cells #[.int .i64 a1_0, .slice A1_1 l1_1.length c1_1] 25 (0, 0)) (by with_reducible apply_rules [B13.out, bA, bB, bC])) : gb117 ≠ gb113)); replace B13 := aM (bD (g := gb113) (o := .cells #[.int .i64 a1_0, .slice A1_1 l1_1.length c1_1] 25 (0, 0)) (by with_reducible apply_rules [B13.out, bA, bB, bC]) hb); clear hb hbox hg) | ((with_reducible refine gate_dst (N := 9) rfl ?_); (try (refine gate_guard (by rfl) ?_; dsimp only)); refine box_event ?hg (N := 9) ?hd (cs := #[.int .i64 0, .slice none 0 0]) (t := 25) ?hr ?_; (case hd => rfl); (case hg => rfl); (case hr => first | (go_simp; done) | (go_simp; rfl)); intro gb118 hg w30 hbox hb; have B18 := aM (hbox); have GW118 := aM ((by rw [hg]; exact (below_size (by (with_reducible apply_rules [HB.out, pA, pD, pE, sT, GE112.out, GE113.out, GE117.out]))) : w.heap.size ≤ gb118)); have GE118 := aM ((by rw [hg]; exact (below_size (by (with_reducible apply_rules [HB.out, pA, pD, pE, sT, GE112.out, GE113.out, GE117.out]))) : w.heap.size ≤ gb118)); replace HB := aM (pS_ (by (with_reducible apply_rules [HB.out, pA, pD, pE, sT, GE112.out, GE113.out, GE117.out])) hb); have NB112_118 := aM ((by rw [hg]; exact Nat.ne_of_lt (blk_lt (g := gb112) (o := .cells #[.int .i64 a0_0, .slice A0_1 l0_1.length c0_1] 25 (0, 0)) (by with_reducible apply_rules [B12.out, bA, bB, bC])) : gb112 ≠ gb118)); have NB118_112 := aM ((by rw [hg]; exact Nat.ne_of_gt (blk_lt (g := gb112) (o := .cells #[.int .i64 a0_0, .slice A0_1 l0_1.length c0_1] 25 (0, 0)) (by with_reducible apply_rules [B12.out, bA, bB, bC])) : gb118 ≠ gb112)); replace B12 := aM (bD (g := gb112) (o := .cells #[.int .i64 a0_0, .slice A0_1 l0_1.length c0_1] 25 (0, 0)) (by with_reducible apply_rules [B12.out, bA, bB, bC]) hb); have NB113_118 := aM ((by rw [hg]; exact Nat.ne_of_lt (blk_lt (g := gb113) (o := .cells #[.int .i64 a1_0, .slice A1_1 l1_1.length c1_1] 25 (0, 0)) (by with_reducible apply_rules [B13.out, bA, bB, bC])) : gb113 ≠ gb118)); have NB118_113 := aM ((by rw [hg]; exact Nat.ne_of_gt (blk_lt (g := gb113) (o := .cells #[.int .i64 a1_0, .slice A1_1 l1_1.length c1_1] 25 (0, 0)) (by with_reducible apply_rules [B13.out, bA, bB, bC])) : gb118 ≠ gb113)); replace B13 := aM (bD (g := gb113) (o := .cells #[.int .i64 a1_0, .slice A1_1 l1_1.length c1_1] 25 (0, 0)) (by with_reducible apply_rules [B13.out, bA, bB, bC]) hb); have NB117_118 := aM ((by rw [hg]; exact Nat.ne_of_lt (blk_lt (g := gb117) (o := .cells #[.int .i64 0, .slice none 0 0] 25 (0, 0)) (by with_reducible apply_rules [B17.out, bA, bB, bC])) : gb117 ≠ gb118)); have NB118_117 := aM ((by rw [hg]; exact Nat.ne_of_gt (blk_lt (g := gb117) (o := .cells #[.int .i64 0, .slice none 0 0] 25 (0, 0)) (by with_reducible apply_rules [B17.out, bA, bB, bC])) : gb118 ≠ gb117)); replace B17 := aM (bD (g := gb117) (o := .cells #[.int .i64 0, .slice none 0 0] 25 (0, 0)) (by with_reducible apply_rules [B17.out, bA, bB, bC]) hb); clear hb hbox hg; have hnb31 := NB117_112.out; have hnc31 := NB112_117.out; have hnb32 := NB117_113.out; have hnc32 := NB113_117.out; have hnb33 := NB117_118.out; have hnc33 := NB118_117.out; have hcz34_0 : w30.cell? ⟨gb117, 0, none⟩ = some (.int .i64 0) := (bE B17.out 0).trans rfl; have hcz34_1 : w30.cell? ⟨gb117, 1, none⟩ = some (.slice none 0 0) := (bE B17.out 1).trans rfl; have hfz34_0 := bF B17.out 0; have hfz34_1 := bF B17.out 1; have hnb35 := NB118_112.out; have hnc35 := NB112_118.out; have hnb36 := NB118_113.out; have hnc36 := NB113_118.out; have hcz37_0 : w30.cell? ⟨gb118, 0, none⟩ = some (.int .i64 0) := (bE B18.out 0).trans rfl; have hcz37_1 : w30.cell? ⟨gb118, 1, none⟩ = some (.slice none 0 0) := (bE B18.out 1).trans rfl; have hfz37_0 := bF B18.out 0; have hfz37_1 := bF B18.out 1; have hnb38 := NB112_113.out; have hnc38 := NB113_112.out; have hcz39_0 : w30.cell? ⟨gb112, 0, none⟩ = some (.int .i64 a0_0) := (bE B12.out 0).trans rfl; have hcz39_1 : w30.cell? ⟨gb112, 1, none⟩ = some (.slice A0_1 l0_1.length c0_1) := (bE B12.out 1).trans rfl; have hfz39_0 := bF B12.out 0; have hfz39_1 := bF B12.out 1) | ((with_reducible refine gate_callee (f := 18) rfl ?_); refine goesL_ (some 34) rfl rfl Tryd.func18 (by kernel_rfl) rfl #[.agg #[.int .i64 a0_0, .slice A0_1 l0_1.length c0_1]] rfl (by (try simp only [List.map_toArray, List.map_cons, List.map_nil]); first | done | rfl | (simp only [List.length_drop, List.length_take]; rfl)) ?_; (with_reducible refine (commodatumref12_Valid.calls kj3 a0_0 _ _ l0_1 t119 _ ?side1 ?side2 A27.out).mono ?_); (case side1 => exact cD HR0_1.out (by (with_reducible apply_rules [HB.out, pA, pD, pE, sT, GE112.out, GE113.out, GE117.out, GE118.out]))); (case side2 => exact HC0_1.out); rintro e w40 ⟨rfl, hb⟩; refine ⟨_, rfl, ?_⟩; replace B12 := aM (bD (g := gb112) (o := .cells #[.int .i64 a0_0, .slice A0_1 l0_1.length c0_1] 25 (0, 0)) (by (with_reducible repeat (first | refine bA ?_ _ | refine bB ?_ | refine bC ?_ _)); refine bG ?_ NB112_118.out _; (with_reducible repeat (first | refine bA ?_ _ | refine bB ?_ | refine bC ?_ _)); refine bG ?_ NB112_118.out _; (with_reducible repeat (first | refine bA ?_ _ | refine bB ?_ | refine bC ?_ _)); refine bG ?_ NB112_117.out _; (with_reducible repeat (first | refine bA ?_ _ | refine bB ?_ | refine bC ?_ _)); refine bG ?_ NB112_117.out _; with_reducible apply_rules [B12.out, bA, bB, bC]) hb); replace B13 := aM (bD (g := gb113) (o := .cells #[.int .i64 a1_0, .slice A1_1 l1_1.length c1_1] 25 (0, 0)) (by (with_reducible repeat (first | refine bA ?_ _ | refine bB ?_ | refine bC ?_ _)); refine bG ?_ NB113_118.out _; (with_reducible repeat (first | refine bA ?_ _ | refine bB ?_ | refine bC ?_ _)); refine bG ?_ NB113_118.out _; (with_reducible repeat (first | refine bA ?_ _ | refine bB ?_ | refine bC ?_ _)); refine bG ?_ NB113_117.out _; (with_reducible repeat (first | refine bA ?_ _ | refine bB ?_ | refine bC ?_ _)); refine bG ?_ NB113_117.out _; with_reducible apply_rules [B13.out, bA, bB, bC]) hb); replace B17 := aM (bD (g := gb117) (o := .cells #[.int .i64 0, .slice none 0 0] 25 (0, 0)) (by (with_reducible repeat (first | refine bA ?_ _ | refine bB ?_ | refine bC ?_ _)); refine bG ?_ NB117_118.out _; (with_reducible repeat (first | refine bA ?_ _ | refine bB ?_ | refine bC ?_ _)); refine bG ?_ NB117_118.out _; (with_reducible repeat (first | refine bA ?_ _ | refine bB ?_ | refine bC ?_ _)); refine blk_put (cs := #[.int .i64 0, .slice none 0 0]) ?_ 1 _ rfl; (with_reducible repeat (first | refine bA ?_ _ | refine bB ?_ | refine bC ?_ _)); refine blk_put (cs := #[.int .i64 0, .slice none 0 0]) ?_ 0 _ rfl; with_reducible apply_rules [B17.out, bA, bB, bC]) hb); replace B18 := aM (bD (g := gb118) (o := .cells #[.int .i64 0, .slice none 0 0] 25 (0, 0)) (by (with_reducible repeat (first | refine bA ?_ _ | refine bB ?_ | refine bC ?_ _)); refine blk_put (cs := #[.int .i64 0, .slice none 0 0]) ?_ 1 _ rfl; (with_reducible repeat (first | refine bA ?_ _ | refine bB ?_ | refine bC ?_ _)); refine blk_put (cs := #[.int .i64 0, .slice none 0 0]) ?_ 0 _ rfl; (with_reducible repeat (first | refine bA ?_ _ | refine bB ?_ | refine bC ?_ _)); refine bG ?_ NB118_117.out _; (with_reducible repeat (first | refine bA ?_ _ | refine bB ?_ | refine bC ?_ _)); refine bG ?_ NB118_117.out _; with_reducible apply_rules [B18.out, bA, bB, bC]) hb); replace HB := aM (pS_ (by (with_reducible apply_rules [HB.out, pA, pD, pE, sT, GE112.out, GE113.out, GE117.out, GE118.out])) hb); (try clear hb); (try clear hb2); (try clear hk); (try clear hi)))
    (try simp only [Act.put, List.setIfInBounds_toArray, List.set_cons_zero, List.set_cons_succ])
    go_cut [7, 10, 11, 12] (fun v7 v10 v11 v12 wc => ∃ (kq : Nat) (x7_27 : List Bool) (x10_27 : Int) (x11_27 : Int) (x12_27 : Int) (x118000_27 : Int) (x118001_27 : List (S67)) (x119000_27 : Int) (x119001_27 : List (S67)) (u118001 : Value) (u119001 : Value), v10 = .int .i64 x10_27 ∧ v11 = .int .i64 x11_27 ∧ v12 = .int .i64 x12_27 ∧ Aside0 (commodatumlaw12_UndoRuns.j2 kq l2 x7_27 x10_27 x11_27 x12_27 a0_0 l0_1 a1_0 l1_1 x118000_27 x118001_27 x119000_27 x119001_27 = some r) ∧ Aside0 (kq ≤ kj3) ∧ Aside0 (Kd.R Kd.bool 4 wc w.heap.size (fun _ => True) v7 x7_27) ∧ Aside0 (Kd.R k67 67 wc w.heap.size (fun k_ => some k_ ≠ (u119001 : Value).ownBlock) u118001 x118001_27) ∧ Aside0 (Kd.R k67 67 wc w.heap.size (fun k_ => some k_ ≠ (u118001 : Value).ownBlock) u119001 x119001_27) ∧ Aside0 (wc.heap[gb112]? = some (.cells #[.int .i64 a0_0, (.slice A0_1 l0_1.length c0_1)] 25 (0, 0))) ∧ Aside0 (wc.heap[gb113]? = some (.cells #[.int .i64 a1_0, (.slice A1_1 l1_1.length c1_1)] 25 (0, 0))) ∧ Aside0 (wc.heap[gb117]? = some (.cells #[.int .i64 x118000_27, u118001] 25 (0, 0))) ∧ Aside0 (wc.heap[gb118]? = some (.cells #[.int .i64 x119000_27, u119001] 25 (0, 0))) ∧ Aside0 (Below w.heap.size w wc))
    case first =>
     have H := HC28.out
     clear HC28
     by_cases c41 : t119 = true
     ·subst c41
      have H1 : ((commodatumref12_Inverse.f kj3 a0_0 l0_1).bind fun bt120 => (if (l2.length : Int) = a0_0 then ((commodatumref12_Run.f kj3 a0_0 l0_1 l2).bind fun t124 => (commodatumlaw12_UndoRuns.j1 kj3 l2 t124 0 0 1 a0_0 l0_1 a1_0 l1_1 bt120.1 bt120.2 0)) else (commodatumlaw12_UndoRuns.j1 kj3 l2 ([] : List Bool) 2 0 1 a0_0 l0_1 a1_0 l1_1 bt120.1 bt120.2 0))) = some r := by rw [if_pos rfl] at H; exact H
      clear H
      have H := H1
      clear H1
      replace H := Option.bind_eq_some_iff.mp H
      obtain ⟨⟨t120, t121⟩, A420, H⟩ := H
      replace H : (if (l2.length : Int) = a0_0 then ((commodatumref12_Run.f kj3 a0_0 l0_1 l2).bind fun t124 => (commodatumlaw12_UndoRuns.j1 kj3 l2 t124 0 0 1 a0_0 l0_1 a1_0 l1_1 t120 t121 0)) else (commodatumlaw12_UndoRuns.j1 kj3 l2 ([] : List Bool) 2 0 1 a0_0 l0_1 a1_0 l1_1 t120 t121 0)) = some r := H
      have A42 := aM A420
      clear A420
      have HC43 := aM H
      clear H
      have hnb44 := NB112_113.out
      have hnc44 := NB113_112.out
      have hnb45 := NB112_117.out
      have hnc45 := NB117_112.out
      have hnb46 := NB112_118.out
      have hnc46 := NB118_112.out
      have hcz47_0 : w40.cell? ⟨gb112, 0, none⟩ = some (.int .i64 a0_0) := (bE B12.out 0).trans rfl
      have hcz47_1 : w40.cell? ⟨gb112, 1, none⟩ = some (.slice A0_1 l0_1.length c0_1) := (bE B12.out 1).trans rfl
      have hfz47_0 := bF B12.out 0
      have hfz47_1 := bF B12.out 1
      go_upto_if 41 with (first | ((with_reducible refine gate_callee (f := 39) rfl ?_); refine goesL_ (some 36) rfl rfl Tryd.func39 (by kernel_rfl) rfl #[.agg #[.int .i64 a0_0, .slice A0_1 l0_1.length c0_1]] rfl (by (try simp only [List.map_toArray, List.map_cons, List.map_nil]); first | done | rfl | (simp only [List.length_drop, List.length_take]; rfl)) ?_; (with_reducible refine (commodatumref12_Inverse.calls kj3 a0_0 _ _ l0_1 t120 t121 _ ?side1 ?side2 A42.out).mono ?_); (case side1 => with_reducible apply_rules [(cD HR0_1.out HB.out), cA, cB, cC]); (case side2 => exact HC0_1.out); rintro e w48 ⟨v122, rfl, ho0, hb⟩; refine ⟨_, rfl, ?_⟩; have HO123 := aM (Kd.R_lower ho0 (below_size (by (with_reducible apply_rules [HB.out, pA, pD, pE, sT, GE112.out, GE113.out, GE117.out, GE118.out])))); replace B12 := aM (bD (g := gb112) (o := .cells #[.int .i64 a0_0, .slice A0_1 l0_1.length c0_1] 25 (0, 0)) (by with_reducible apply_rules [B12.out, bA, bB, bC]) hb); replace B13 := aM (bD (g := gb113) (o := .cells #[.int .i64 a1_0, .slice A1_1 l1_1.length c1_1] 25 (0, 0)) (by with_reducible apply_rules [B13.out, bA, bB, bC]) hb); replace B17 := aM (bD (g := gb117) (o := .cells #[.int .i64 0, .slice none 0 0] 25 (0, 0)) (by with_reducible apply_rules [B17.out, bA, bB, bC]) hb); replace B18 := aM (bD (g := gb118) (o := .cells #[.int .i64 0, .slice none 0 0] 25 (0, 0)) (by with_reducible apply_rules [B18.out, bA, bB, bC]) hb); replace HB := aM (pS_ (by (with_reducible apply_rules [HB.out, pA, pD, pE, sT, GE112.out, GE113.out, GE117.out, GE118.out])) hb); (try clear hb); (try clear hb2); (try clear hk); (try clear hi); (try clear ho0); have hnb49 := NB117_113.out; have hnc49 := NB113_117.out; have hnb50 := NB117_118.out; have hnc50 := NB118_117.out; have hcz51_0 : w48.cell? ⟨gb117, 0, none⟩ = some (.int .i64 0) := (bE B17.out 0).trans rfl; have hcz51_1 : w48.cell? ⟨gb117, 1, none⟩ = some (.slice none 0 0) := (bE B17.out 1).trans rfl; have hfz51_0 := bF B17.out 0; have hfz51_1 := bF B17.out 1; obtain ⟨Ao52, co52, eo52⟩ := Kd.R_slice HO123.out; subst eo52; have hcz53_0 : w48.cell? ⟨gb112, 0, none⟩ = some (.int .i64 a0_0) := (bE B12.out 0).trans rfl; have hcz53_1 : w48.cell? ⟨gb112, 1, none⟩ = some (.slice A0_1 l0_1.length c0_1) := (bE B12.out 1).trans rfl; have hfz53_0 := bF B12.out 0; have hfz53_1 := bF B12.out 1))
      (try simp only [Act.put, List.setIfInBounds_toArray, List.set_cons_zero, List.set_cons_succ])
      go_cut [7, 10] (fun v7 v10 wc => ∃ (kq : Nat) (x7_42 : List Bool) (x10_42 : Int), v10 = .int .i64 x10_42 ∧ Aside0 (commodatumlaw12_UndoRuns.j1 kq l2 x7_42 x10_42 0 1 a0_0 l0_1 a1_0 l1_1 t120 t121 0 = some r) ∧ Aside0 (kq ≤ kj3) ∧ Aside0 (Kd.R Kd.bool 4 wc w.heap.size (fun _ => True) v7 x7_42) ∧ Aside0 (Kd.R k67 67 wc w.heap.size (fun _ => True) (.slice Ao52 t121.length co52) t121) ∧ Aside0 (wc.heap[gb112]? = some (.cells #[.int .i64 a0_0, (.slice A0_1 l0_1.length c0_1)] 25 (0, 0))) ∧ Aside0 (wc.heap[gb113]? = some (.cells #[.int .i64 a1_0, (.slice A1_1 l1_1.length c1_1)] 25 (0, 0))) ∧ Aside0 (wc.heap[gb117]? = some (.cells #[.int .i64 t120, (.slice Ao52 t121.length co52)] 25 (0, 0))) ∧ Aside0 (wc.heap[gb118]? = some (.cells #[.int .i64 0, (.slice none 0 0)] 25 (0, 0))) ∧ Aside0 (Below w.heap.size w wc))
      case first =>
       have H := HC43.out
       clear HC43
       by_cases c54 : (l2.length : Int) = a0_0
       ·rw [if_pos c54] at H
        have c54b0 : ((l2.length : Int) == a0_0) = true := beq_iff_eq.mpr c54
        have c54b1 : ((l2.length : Int) != a0_0) = false := bne_eq_false_iff_eq.mpr c54
        clear c54
        (first | rw [c54b0] | (simp only [i64_w, i32_w]; rw [c54b0]) | skip)
        replace H := Option.bind_eq_some_iff.mp H
        obtain ⟨t124, A550, H⟩ := H
        replace H : (commodatumlaw12_UndoRuns.j1 kj3 l2 t124 0 0 1 a0_0 l0_1 a1_0 l1_1 t120 t121 0) = some r := H
        have A55 := aM A550
        clear A550
        have H' := aM H
        clear H
        have hnb56 := NB112_113.out
        have hnc56 := NB113_112.out
        have hnb57 := NB112_117.out
        have hnc57 := NB117_112.out
        have hnb58 := NB112_118.out
        have hnc58 := NB118_112.out
        have hcz59_0 : w48.cell? ⟨gb112, 0, none⟩ = some (.int .i64 a0_0) := (bE B12.out 0).trans rfl
        have hcz59_1 : w48.cell? ⟨gb112, 1, none⟩ = some (.slice A0_1 l0_1.length c0_1) := (bE B12.out 1).trans rfl
        have hfz59_0 := bF B12.out 0
        have hfz59_1 := bF B12.out 1
        go_wp2_with (first | ((with_reducible refine gate_callee (f := 40) rfl ?_); refine goesL_ (some 44) rfl rfl Tryd.func40 (by kernel_rfl) rfl #[.agg #[.int .i64 a0_0, .slice A0_1 l0_1.length c0_1], .slice A2 l2.length c2] rfl (by (try simp only [List.map_toArray, List.map_cons, List.map_nil]); first | done | rfl | (simp only [List.length_drop, List.length_take]; rfl)) ?_; (with_reducible refine (commodatumref12_Run.calls kj3 a0_0 _ _ l0_1 _ _ l2 t124 _ ?side1 ?side2 ?side3 ?side4 A55.out).mono ?_); (case side1 => exact cD HR0_1.out (by (with_reducible apply_rules [HB.out, pA, pD, pE, sT, GE112.out, GE113.out, GE117.out, GE118.out]))); (case side2 => exact HC0_1.out); (case side3 => exact cD HR2.out (by (with_reducible apply_rules [HB.out, pA, pD, pE, sT, GE112.out, GE113.out, GE117.out, GE118.out]))); (case side4 => exact HC2.out); rintro e w60 ⟨v125, rfl, ho0, hb⟩; refine ⟨_, rfl, ?_⟩; replace HO123 := aM (rD (by (with_reducible repeat (first | apply rA | apply rB | apply rC)); exact (rE (Kd.R_far (p := ⟨gb117, 1, none⟩) (Kd.R_far (p := ⟨gb117, 0, none⟩) (Kd.R_types HO123.out B17.out (by decide)) (fun _ hk => hk.2) (.int .i64 t120)) (fun _ hk => hk.2) (.slice Ao52 t121.length co52)) (fun _ h_ => h_.1))) hb); have HO126 := aM (Kd.R_lower ho0 (below_size (by (with_reducible apply_rules [HB.out, pA, pD, pE, sT, GE112.out, GE113.out, GE117.out, GE118.out])))); replace B12 := aM (bD (g := gb112) (o := .cells #[.int .i64 a0_0, .slice A0_1 l0_1.length c0_1] 25 (0, 0)) (by (with_reducible repeat (first | refine bA ?_ _ | refine bB ?_ | refine bC ?_ _)); refine bG ?_ NB112_117.out _; (with_reducible repeat (first | refine bA ?_ _ | refine bB ?_ | refine bC ?_ _)); refine bG ?_ NB112_117.out _; with_reducible apply_rules [B12.out, bA, bB, bC]) hb); replace B13 := aM (bD (g := gb113) (o := .cells #[.int .i64 a1_0, .slice A1_1 l1_1.length c1_1] 25 (0, 0)) (by (with_reducible repeat (first | refine bA ?_ _ | refine bB ?_ | refine bC ?_ _)); refine bG ?_ NB113_117.out _; (with_reducible repeat (first | refine bA ?_ _ | refine bB ?_ | refine bC ?_ _)); refine bG ?_ NB113_117.out _; with_reducible apply_rules [B13.out, bA, bB, bC]) hb); replace B17 := aM (bD (g := gb117) (o := .cells #[.int .i64 t120, .slice Ao52 t121.length co52] 25 (0, 0)) (by (with_reducible repeat (first | refine bA ?_ _ | refine bB ?_ | refine bC ?_ _)); refine blk_put (cs := #[.int .i64 t120, .slice none 0 0]) ?_ 1 _ rfl; (with_reducible repeat (first | refine bA ?_ _ | refine bB ?_ | refine bC ?_ _)); refine blk_put (cs := #[.int .i64 0, .slice none 0 0]) ?_ 0 _ rfl; with_reducible apply_rules [B17.out, bA, bB, bC]) hb); replace B18 := aM (bD (g := gb118) (o := .cells #[.int .i64 0, .slice none 0 0] 25 (0, 0)) (by (with_reducible repeat (first | refine bA ?_ _ | refine bB ?_ | refine bC ?_ _)); refine bG ?_ NB118_117.out _; (with_reducible repeat (first | refine bA ?_ _ | refine bB ?_ | refine bC ?_ _)); refine bG ?_ NB118_117.out _; with_reducible apply_rules [B18.out, bA, bB, bC]) hb); replace HB := aM (pS_ (by (with_reducible apply_rules [HB.out, pA, pD, pE, sT, GE112.out, GE113.out, GE117.out, GE118.out])) hb); (try clear hb); (try clear hb2); (try clear hk); (try clear hi); (try clear ho0)))
        go_meet
        case rel => exact ⟨_, (t124), (0), (by first | rfl | (simp; done) | (simp [*]; done)), H', ⟨by have := HJ3.out; first | omega | exact Nat.le_refl _⟩, ⟨by with_reducible apply_rules [HO126.out, rA, rB, rC]⟩, ⟨by with_reducible apply_rules [HO123.out, rA, rB, rC]⟩, ⟨by with_reducible apply_rules [B12.out, bA, bB, bC]⟩, ⟨by with_reducible apply_rules [B13.out, bA, bB, bC]⟩, ⟨by with_reducible apply_rules [B17.out, bA, bB, bC]⟩, ⟨by with_reducible apply_rules [B18.out, bA, bB, bC]⟩, ⟨by (with_reducible apply_rules [HB.out, pA, pD, pE, sT, GE112.out, GE113.out, GE117.out, GE118.out])⟩⟩
       ·rw [if_neg c54] at H
        have c54b0 : ((l2.length : Int) == a0_0) = false := beq_eq_false_iff_ne.mpr c54
        have c54b1 : ((l2.length : Int) != a0_0) = true := bne_iff_ne.mpr c54
        (first | rw [c54b0] | (simp only [i64_w, i32_w]; rw [c54b0]) | skip)
        have H' := aM H
        clear H
        go_wp2
        go_meet
        case rel => exact ⟨_, (([] : List Bool)), (2), (by first | rfl | (simp; done) | (simp [*]; done)), H', ⟨by have := HJ3.out; first | omega | exact Nat.le_refl _⟩, ⟨by first | exact Kd.R_nil _ _ _ _ _ | exact Kd.N_nil _ _ _ _ _ | exact Kd.V_nil _ _ _ _ _ | exact Kd.Q_nil _ _ _ _ _ | exact Kd.S_nil _ _ _ _ _⟩, ⟨by (with_reducible repeat (first | apply rA | apply rB | apply rC)); exact rE (Kd.R_far (p := ⟨gb117, 1, none⟩) (Kd.R_far (p := ⟨gb117, 0, none⟩) (Kd.R_types HO123.out B17.out (by decide)) (fun _ hk => hk.2) (.int .i64 t120)) (fun _ hk => hk.2) (.slice Ao52 t121.length co52)) (fun _ hk => trivial)⟩, ⟨by (with_reducible repeat (first | refine bA ?_ _ | refine bB ?_ | refine bC ?_ _)); refine bG ?_ NB112_117.out _; (with_reducible repeat (first | refine bA ?_ _ | refine bB ?_ | refine bC ?_ _)); refine bG ?_ NB112_117.out _; with_reducible apply_rules [B12.out, bA, bB, bC]⟩, ⟨by (with_reducible repeat (first | refine bA ?_ _ | refine bB ?_ | refine bC ?_ _)); refine bG ?_ NB113_117.out _; (with_reducible repeat (first | refine bA ?_ _ | refine bB ?_ | refine bC ?_ _)); refine bG ?_ NB113_117.out _; with_reducible apply_rules [B13.out, bA, bB, bC]⟩, ⟨by (with_reducible repeat (first | refine bA ?_ _ | refine bB ?_ | refine bC ?_ _)); refine blk_put (cs := #[.int .i64 t120, .slice none 0 0]) ?_ 1 _ rfl; (with_reducible repeat (first | refine bA ?_ _ | refine bB ?_ | refine bC ?_ _)); refine blk_put (cs := #[.int .i64 0, .slice none 0 0]) ?_ 0 _ rfl; with_reducible apply_rules [B17.out, bA, bB, bC]⟩, ⟨by (with_reducible repeat (first | refine bA ?_ _ | refine bB ?_ | refine bC ?_ _)); refine bG ?_ NB118_117.out _; (with_reducible repeat (first | refine bA ?_ _ | refine bB ?_ | refine bC ?_ _)); refine bG ?_ NB118_117.out _; with_reducible apply_rules [B18.out, bA, bB, bC]⟩, ⟨by (with_reducible apply_rules [HB.out, pA, pD, pE, sT, GE112.out, GE113.out, GE117.out, GE118.out])⟩⟩
      case rest =>
       clear HC43
       try clear c1
       try clear c2
       try clear p2
       try clear c3
       try clear c4
       try clear c5
       try clear c8
       try clear c9
       try clear c10
       try clear c12
       try clear c13
       try clear c14
       try clear c17
       try clear c18
       try clear c19
       try clear c24
       try clear c31
       try clear c32
       try clear c33
       try clear c35
       try clear c36
       try clear c38
       try clear c39
       try clear c40
       try clear c41
       try clear c44
       try clear c45
       try clear c46
       try clear c49
       try clear c50
       try clear c54
       try clear c54b0
       try clear c54b1
       try clear c56
       try clear c57
       try clear c58
       try clear hcz10_0
       try clear hcz10_1
       try clear hcz15_0
       try clear hcz15_1
       try clear hcz17_0
       try clear hcz17_1
       try clear hcz20_0
       try clear hcz20_1
       try clear hcz22_0
       try clear hcz22_1
       try clear hcz34_0
       try clear hcz34_1
       try clear hcz37_0
       try clear hcz37_1
       try clear hcz39_0
       try clear hcz39_1
       try clear hcz47_0
       try clear hcz47_1
       try clear hcz51_0
       try clear hcz51_1
       try clear hcz53_0
       try clear hcz53_1
       try clear hcz59_0
       try clear hcz59_1
       try clear hfz10_0
       try clear hfz10_1
       try clear hfz15_0
       try clear hfz15_1
       try clear hfz17_0
       try clear hfz17_1
       try clear hfz20_0
       try clear hfz20_1
       try clear hfz22_0
       try clear hfz22_1
       try clear hfz34_0
       try clear hfz34_1
       try clear hfz37_0
       try clear hfz37_1
       try clear hfz39_0
       try clear hfz39_1
       try clear hfz47_0
       try clear hfz47_1
       try clear hfz51_0
       try clear hfz51_1
       try clear hfz53_0
       try clear hfz53_1
       try clear hfz59_0
       try clear hfz59_1
       try clear p2
       obtain ⟨kq, x7_42, x10_42, rfl, HA, HJ42, HO_7, HO_118001, B12, B13, B17, B18, HB⟩ := hcut
       cases kq with
       | zero => exact absurd HA.out (by simp [commodatumlaw12_UndoRuns.j1])
       | succ kj42 =>
        have H := HA.out
        clear HA
        simp only [commodatumlaw12_UndoRuns.j1] at H
        replace H := Option.bind_eq_some_iff.mp H
        obtain ⟨t127, A610, H⟩ := H
        replace H : (if t127 = true then (if a0_0 = a1_0 then ((commodatumref12_Join.f a0_0 l0_1 a1_0 l1_1).bind fun bt128 => (commodatumlaw12_UndoRuns.j2 kj42 l2 x7_42 x10_42 0 0 a0_0 l0_1 a1_0 l1_1 t120 t121 bt128.1 bt128.2)) else (commodatumlaw12_UndoRuns.j2 kj42 l2 x7_42 x10_42 0 2 a0_0 l0_1 a1_0 l1_1 t120 t121 0 ([] : List (S67)))) else (commodatumlaw12_UndoRuns.j2 kj42 l2 x7_42 x10_42 0 1 a0_0 l0_1 a1_0 l1_1 t120 t121 0 ([] : List (S67)))) = some r := H
        have A61 := aM A610
        clear A610
        by_cases c62 : t127 = true
        ·subst c62
         have H1 : (if a0_0 = a1_0 then ((commodatumref12_Join.f a0_0 l0_1 a1_0 l1_1).bind fun bt128 => (commodatumlaw12_UndoRuns.j2 kj42 l2 x7_42 x10_42 0 0 a0_0 l0_1 a1_0 l1_1 t120 t121 bt128.1 bt128.2)) else (commodatumlaw12_UndoRuns.j2 kj42 l2 x7_42 x10_42 0 2 a0_0 l0_1 a1_0 l1_1 t120 t121 0 ([] : List (S67)))) = some r := by rw [if_pos rfl] at H; exact H
         clear H
         have H := H1
         clear H1
         by_cases c63 : a0_0 = a1_0
         ·rw [if_pos c63] at H
          have c63b0 : (a0_0 == a1_0) = true := beq_iff_eq.mpr c63
          have c63b1 : (a0_0 != a1_0) = false := bne_eq_false_iff_eq.mpr c63
          clear c63
          replace H := Option.bind_eq_some_iff.mp H
          obtain ⟨⟨t128, t129⟩, A640, H⟩ := H
          replace H : (commodatumlaw12_UndoRuns.j2 kj42 l2 x7_42 x10_42 0 0 a0_0 l0_1 a1_0 l1_1 t120 t121 t128 t129) = some r := H
          have A64 := aM A640
          clear A640
          have H' := aM H
          clear H
          have hnb65 := NB113_112.out
          have hnc65 := NB112_113.out
          have hnb66 := NB113_117.out
          have hnc66 := NB117_113.out
          have hnb67 := NB113_118.out
          have hnc67 := NB118_113.out
          have hcz68_0 : wc.cell? ⟨gb113, 0, none⟩ = some (.int .i64 a1_0) := (bE B13.out 0).trans rfl
          have hcz68_1 : wc.cell? ⟨gb113, 1, none⟩ = some (.slice A1_1 l1_1.length c1_1) := (bE B13.out 1).trans rfl
          have hfz68_0 := bF B13.out 0
          have hfz68_1 := bF B13.out 1
          go_wp2_with (first | ((with_reducible refine gate_callee (f := 18) rfl ?_); refine goesL_ (some 46) rfl rfl Tryd.func18 (by kernel_rfl) rfl #[.agg #[.int .i64 a1_0, .slice A1_1 l1_1.length c1_1]] rfl (by (try simp only [List.map_toArray, List.map_cons, List.map_nil]); first | done | rfl | (simp only [List.length_drop, List.length_take]; rfl)) ?_; (with_reducible refine (commodatumref12_Valid.calls kj42 a1_0 _ _ l1_1 true _ ?side1 ?side2 A61.out).mono ?_); (case side1 => with_reducible apply_rules [(cD HR1_1.out HB.out), cA, cB, cC]); (case side2 => exact HC1_1.out); rintro e w69 ⟨rfl, hb⟩; refine ⟨_, rfl, ?_⟩; replace HO_7 := aM (rD (by with_reducible apply_rules [HO_7.out, rA, rB, rC]) hb); replace HO_118001 := aM (rD (by with_reducible apply_rules [HO_118001.out, rA, rB, rC]) hb); replace B12 := aM (bD (g := gb112) (o := .cells #[.int .i64 a0_0, .slice A0_1 l0_1.length c0_1] 25 (0, 0)) (by with_reducible apply_rules [B12.out, bA, bB, bC]) hb); replace B13 := aM (bD (g := gb113) (o := .cells #[.int .i64 a1_0, .slice A1_1 l1_1.length c1_1] 25 (0, 0)) (by with_reducible apply_rules [B13.out, bA, bB, bC]) hb); replace B17 := aM (bD (g := gb117) (o := .cells #[.int .i64 t120, .slice Ao52 t121.length co52] 25 (0, 0)) (by with_reducible apply_rules [B17.out, bA, bB, bC]) hb); replace B18 := aM (bD (g := gb118) (o := .cells #[.int .i64 0, .slice none 0 0] 25 (0, 0)) (by with_reducible apply_rules [B18.out, bA, bB, bC]) hb); replace HB := aM (pS_ (by (with_reducible apply_rules [HB.out, pA, pD, pE, sT, GE112.out, GE113.out, GE117.out, GE118.out])) hb); (try clear hb); (try clear hb2); (try clear hk); (try clear hi); have hnb70 := NB112_117.out; have hnc70 := NB117_112.out; have hnb71 := NB112_118.out; have hnc71 := NB118_112.out; have hcz72_0 : w69.cell? ⟨gb112, 0, none⟩ = some (.int .i64 a0_0) := (bE B12.out 0).trans rfl; have hcz72_1 : w69.cell? ⟨gb112, 1, none⟩ = some (.slice A0_1 l0_1.length c0_1) := (bE B12.out 1).trans rfl; have hfz72_0 := bF B12.out 0; have hfz72_1 := bF B12.out 1; have hcz73_0 : w69.cell? ⟨gb113, 0, none⟩ = some (.int .i64 a1_0) := (bE B13.out 0).trans rfl; have hcz73_1 : w69.cell? ⟨gb113, 1, none⟩ = some (.slice A1_1 l1_1.length c1_1) := (bE B13.out 1).trans rfl; have hfz73_0 := bF B13.out 0; have hfz73_1 := bF B13.out 1) | ((with_reducible refine gate_callee (f := 37) rfl ?_); refine goesL_ (some 54) rfl rfl Tryd.func37 (by kernel_rfl) rfl #[.agg #[.int .i64 a0_0, .slice A0_1 l0_1.length c0_1], .agg #[.int .i64 a1_0, .slice A1_1 l1_1.length c1_1]] rfl (by (try simp only [List.map_toArray, List.map_cons, List.map_nil]); first | done | rfl | (simp only [List.length_drop, List.length_take]; rfl)) ?_; (with_reducible refine (commodatumref12_Join.calls a0_0 _ _ l0_1 a1_0 _ _ l1_1 t128 t129 _ ?side1 ?side2 ?side3 ?side4 A64.out).mono ?_); (case side1 => with_reducible apply_rules [(cD HR0_1.out HB.out), cA, cB, cC]); (case side2 => exact HC0_1.out); (case side3 => with_reducible apply_rules [(cD HR1_1.out HB.out), cA, cB, cC]); (case side4 => exact HC1_1.out); rintro e w74 ⟨v130, rfl, ho0, hb⟩; refine ⟨_, rfl, ?_⟩; replace HO_7 := aM (rD (by with_reducible apply_rules [HO_7.out, rA, rB, rC]) hb); have HO131 := aM (Kd.R_lower (Kd.R_new' ho0 (Kd.R_lt (by with_reducible apply_rules [HO_118001.out, rA, rB, rC]))) (below_size (by (with_reducible apply_rules [HB.out, pA, pD, pE, sT, GE112.out, GE113.out, GE117.out, GE118.out])))); replace HO_118001 := aM (Kd.R_elder' (by with_reducible apply_rules [HO_118001.out, rA, rB, rC]) (Kd.R_base ho0) hb); replace B12 := aM (bD (g := gb112) (o := .cells #[.int .i64 a0_0, .slice A0_1 l0_1.length c0_1] 25 (0, 0)) (by with_reducible apply_rules [B12.out, bA, bB, bC]) hb); replace B13 := aM (bD (g := gb113) (o := .cells #[.int .i64 a1_0, .slice A1_1 l1_1.length c1_1] 25 (0, 0)) (by with_reducible apply_rules [B13.out, bA, bB, bC]) hb); replace B17 := aM (bD (g := gb117) (o := .cells #[.int .i64 t120, .slice Ao52 t121.length co52] 25 (0, 0)) (by with_reducible apply_rules [B17.out, bA, bB, bC]) hb); replace B18 := aM (bD (g := gb118) (o := .cells #[.int .i64 0, .slice none 0 0] 25 (0, 0)) (by with_reducible apply_rules [B18.out, bA, bB, bC]) hb); replace HB := aM (pS_ (by (with_reducible apply_rules [HB.out, pA, pD, pE, sT, GE112.out, GE113.out, GE117.out, GE118.out])) hb); (try clear hb); (try clear hb2); (try clear hk); (try clear hi); (try clear ho0); have hnb75 := NB118_117.out; have hnc75 := NB117_118.out; have hcz76_0 : w74.cell? ⟨gb118, 0, none⟩ = some (.int .i64 0) := (bE B18.out 0).trans rfl; have hcz76_1 : w74.cell? ⟨gb118, 1, none⟩ = some (.slice none 0 0) := (bE B18.out 1).trans rfl; have hfz76_0 := bF B18.out 0; have hfz76_1 := bF B18.out 1; obtain ⟨Ao77, co77, eo77⟩ := Kd.R_slice HO131.out; subst eo77))
          go_meet
          case rel => exact ⟨_, (x7_42), (x10_42), (0), (0), (t120), (t121), (t128), (t129), (.slice Ao52 t121.length co52), (.slice Ao77 t129.length co77), (by first | rfl | (simp; done) | (simp [*]; done)), (by first | rfl | (simp; done) | (simp [*]; done)), (by first | rfl | (simp; done) | (simp [*]; done)), H', ⟨by have := HJ3.out; have := HJ42.out; first | omega | exact Nat.le_refl _⟩, ⟨by (with_reducible repeat (first | apply rA | apply rB | apply rC)); exact rE (Kd.R_far (p := ⟨gb118, 1, none⟩) (Kd.R_far (p := ⟨gb118, 0, none⟩) (Kd.R_types HO_7.out B18.out (by decide)) (fun _ hk => hk.2) (.int .i64 t128)) (fun _ hk => hk.2) (.slice Ao77 t129.length co77)) (fun _ hk => trivial)⟩, ⟨by (with_reducible repeat (first | apply rA | apply rB | apply rC)); exact rE (Kd.R_far (p := ⟨gb118, 1, none⟩) (Kd.R_far (p := ⟨gb118, 0, none⟩) (Kd.R_types HO_118001.out B18.out (by decide)) (fun _ hk => hk.2) (.int .i64 t128)) (fun _ hk => hk.2) (.slice Ao77 t129.length co77)) (fun _ hk => hk.1.2)⟩, ⟨by (with_reducible repeat (first | apply rA | apply rB | apply rC)); exact rE (Kd.R_far (p := ⟨gb118, 1, none⟩) (Kd.R_far (p := ⟨gb118, 0, none⟩) (Kd.R_types HO131.out B18.out (by decide)) (fun _ hk => hk.2) (.int .i64 t128)) (fun _ hk => hk.2) (.slice Ao77 t129.length co77)) (fun _ hk => hk.1.2)⟩, ⟨by (with_reducible repeat (first | refine bA ?_ _ | refine bB ?_ | refine bC ?_ _)); refine bG ?_ NB112_118.out _; (with_reducible repeat (first | refine bA ?_ _ | refine bB ?_ | refine bC ?_ _)); refine bG ?_ NB112_118.out _; with_reducible apply_rules [B12.out, bA, bB, bC]⟩, ⟨by (with_reducible repeat (first | refine bA ?_ _ | refine bB ?_ | refine bC ?_ _)); refine bG ?_ NB113_118.out _; (with_reducible repeat (first | refine bA ?_ _ | refine bB ?_ | refine bC ?_ _)); refine bG ?_ NB113_118.out _; with_reducible apply_rules [B13.out, bA, bB, bC]⟩, ⟨by (with_reducible repeat (first | refine bA ?_ _ | refine bB ?_ | refine bC ?_ _)); refine bG ?_ NB117_118.out _; (with_reducible repeat (first | refine bA ?_ _ | refine bB ?_ | refine bC ?_ _)); refine bG ?_ NB117_118.out _; with_reducible apply_rules [B17.out, bA, bB, bC]⟩, ⟨by (with_reducible repeat (first | refine bA ?_ _ | refine bB ?_ | refine bC ?_ _)); refine blk_put (cs := #[.int .i64 t128, .slice none 0 0]) ?_ 1 _ rfl; (with_reducible repeat (first | refine bA ?_ _ | refine bB ?_ | refine bC ?_ _)); refine blk_put (cs := #[.int .i64 0, .slice none 0 0]) ?_ 0 _ rfl; with_reducible apply_rules [B18.out, bA, bB, bC]⟩, ⟨by (with_reducible apply_rules [HB.out, pA, pD, pE, sT, GE112.out, GE113.out, GE117.out, GE118.out])⟩⟩
         ·rw [if_neg c63] at H
          have c63b0 : (a0_0 == a1_0) = false := beq_eq_false_iff_ne.mpr c63
          have c63b1 : (a0_0 != a1_0) = true := bne_iff_ne.mpr c63
          have H' := aM H
          clear H
          have hnb78 := NB113_112.out
          have hnc78 := NB112_113.out
          have hnb79 := NB113_117.out
          have hnc79 := NB117_113.out
          have hnb80 := NB113_118.out
          have hnc80 := NB118_113.out
          have hcz81_0 : wc.cell? ⟨gb113, 0, none⟩ = some (.int .i64 a1_0) := (bE B13.out 0).trans rfl
          have hcz81_1 : wc.cell? ⟨gb113, 1, none⟩ = some (.slice A1_1 l1_1.length c1_1) := (bE B13.out 1).trans rfl
          have hfz81_0 := bF B13.out 0
          have hfz81_1 := bF B13.out 1
          go_wp2_with (first | ((with_reducible refine gate_callee (f := 18) rfl ?_); refine goesL_ (some 46) rfl rfl Tryd.func18 (by kernel_rfl) rfl #[.agg #[.int .i64 a1_0, .slice A1_1 l1_1.length c1_1]] rfl (by (try simp only [List.map_toArray, List.map_cons, List.map_nil]); first | done | rfl | (simp only [List.length_drop, List.length_take]; rfl)) ?_; (with_reducible refine (commodatumref12_Valid.calls kj42 a1_0 _ _ l1_1 true _ ?side1 ?side2 A61.out).mono ?_); (case side1 => with_reducible apply_rules [(cD HR1_1.out HB.out), cA, cB, cC]); (case side2 => exact HC1_1.out); rintro e w82 ⟨rfl, hb⟩; refine ⟨_, rfl, ?_⟩; replace HO_7 := aM (rD (by with_reducible apply_rules [HO_7.out, rA, rB, rC]) hb); replace HO_118001 := aM (rD (by with_reducible apply_rules [HO_118001.out, rA, rB, rC]) hb); replace B12 := aM (bD (g := gb112) (o := .cells #[.int .i64 a0_0, .slice A0_1 l0_1.length c0_1] 25 (0, 0)) (by with_reducible apply_rules [B12.out, bA, bB, bC]) hb); replace B13 := aM (bD (g := gb113) (o := .cells #[.int .i64 a1_0, .slice A1_1 l1_1.length c1_1] 25 (0, 0)) (by with_reducible apply_rules [B13.out, bA, bB, bC]) hb); replace B17 := aM (bD (g := gb117) (o := .cells #[.int .i64 t120, .slice Ao52 t121.length co52] 25 (0, 0)) (by with_reducible apply_rules [B17.out, bA, bB, bC]) hb); replace B18 := aM (bD (g := gb118) (o := .cells #[.int .i64 0, .slice none 0 0] 25 (0, 0)) (by with_reducible apply_rules [B18.out, bA, bB, bC]) hb); replace HB := aM (pS_ (by (with_reducible apply_rules [HB.out, pA, pD, pE, sT, GE112.out, GE113.out, GE117.out, GE118.out])) hb); (try clear hb); (try clear hb2); (try clear hk); (try clear hi); have hnb83 := NB112_117.out; have hnc83 := NB117_112.out; have hnb84 := NB112_118.out; have hnc84 := NB118_112.out; have hcz85_0 : w82.cell? ⟨gb112, 0, none⟩ = some (.int .i64 a0_0) := (bE B12.out 0).trans rfl; have hcz85_1 : w82.cell? ⟨gb112, 1, none⟩ = some (.slice A0_1 l0_1.length c0_1) := (bE B12.out 1).trans rfl; have hfz85_0 := bF B12.out 0; have hfz85_1 := bF B12.out 1; have hcz86_0 : w82.cell? ⟨gb113, 0, none⟩ = some (.int .i64 a1_0) := (bE B13.out 0).trans rfl; have hcz86_1 : w82.cell? ⟨gb113, 1, none⟩ = some (.slice A1_1 l1_1.length c1_1) := (bE B13.out 1).trans rfl; have hfz86_0 := bF B13.out 0; have hfz86_1 := bF B13.out 1))
          go_meet
          case rel => exact ⟨_, (x7_42), (x10_42), (0), (2), (t120), (t121), (0), (([] : List (S67))), (.slice Ao52 t121.length co52), (.slice none 0 0), (by first | rfl | (simp; done) | (simp [*]; done)), (by first | rfl | (simp; done) | (simp [*]; done)), (by first | rfl | (simp; done) | (simp [*]; done)), H', ⟨by have := HJ3.out; have := HJ42.out; first | omega | exact Nat.le_refl _⟩, ⟨by with_reducible apply_rules [HO_7.out, rA, rB, rC]⟩, ⟨by (with_reducible repeat (first | apply rA | apply rB | apply rC)); exact rE HO_118001.out (fun _ hk => (by simp [Value.ownBlock]))⟩, ⟨by first | exact Kd.R_nil _ _ _ _ _ | exact Kd.N_nil _ _ _ _ _ | exact Kd.V_nil _ _ _ _ _ | exact Kd.Q_nil _ _ _ _ _ | exact Kd.S_nil _ _ _ _ _⟩, ⟨by with_reducible apply_rules [B12.out, bA, bB, bC]⟩, ⟨by with_reducible apply_rules [B13.out, bA, bB, bC]⟩, ⟨by with_reducible apply_rules [B17.out, bA, bB, bC]⟩, ⟨by with_reducible apply_rules [B18.out, bA, bB, bC]⟩, ⟨by (with_reducible apply_rules [HB.out, pA, pD, pE, sT, GE112.out, GE113.out, GE117.out, GE118.out])⟩⟩
        ·replace c62 := Bool.eq_false_iff.mpr c62
         subst c62
         have H1 : (commodatumlaw12_UndoRuns.j2 kj42 l2 x7_42 x10_42 0 1 a0_0 l0_1 a1_0 l1_1 t120 t121 0 ([] : List (S67))) = some r := by rw [if_neg (show ¬ (false = true) by decide)] at H; exact H
         clear H
         have H := H1
         clear H1
         have H' := aM H
         clear H
         have hnb87 := NB113_112.out
         have hnc87 := NB112_113.out
         have hnb88 := NB113_117.out
         have hnc88 := NB117_113.out
         have hnb89 := NB113_118.out
         have hnc89 := NB118_113.out
         have hcz90_0 : wc.cell? ⟨gb113, 0, none⟩ = some (.int .i64 a1_0) := (bE B13.out 0).trans rfl
         have hcz90_1 : wc.cell? ⟨gb113, 1, none⟩ = some (.slice A1_1 l1_1.length c1_1) := (bE B13.out 1).trans rfl
         have hfz90_0 := bF B13.out 0
         have hfz90_1 := bF B13.out 1
         go_wp2_with (first | ((with_reducible refine gate_callee (f := 18) rfl ?_); refine goesL_ (some 46) rfl rfl Tryd.func18 (by kernel_rfl) rfl #[.agg #[.int .i64 a1_0, .slice A1_1 l1_1.length c1_1]] rfl (by (try simp only [List.map_toArray, List.map_cons, List.map_nil]); first | done | rfl | (simp only [List.length_drop, List.length_take]; rfl)) ?_; (with_reducible refine (commodatumref12_Valid.calls kj42 a1_0 _ _ l1_1 false _ ?side1 ?side2 A61.out).mono ?_); (case side1 => with_reducible apply_rules [(cD HR1_1.out HB.out), cA, cB, cC]); (case side2 => exact HC1_1.out); rintro e w91 ⟨rfl, hb⟩; refine ⟨_, rfl, ?_⟩; replace HO_7 := aM (rD (by with_reducible apply_rules [HO_7.out, rA, rB, rC]) hb); replace HO_118001 := aM (rD (by with_reducible apply_rules [HO_118001.out, rA, rB, rC]) hb); replace B12 := aM (bD (g := gb112) (o := .cells #[.int .i64 a0_0, .slice A0_1 l0_1.length c0_1] 25 (0, 0)) (by with_reducible apply_rules [B12.out, bA, bB, bC]) hb); replace B13 := aM (bD (g := gb113) (o := .cells #[.int .i64 a1_0, .slice A1_1 l1_1.length c1_1] 25 (0, 0)) (by with_reducible apply_rules [B13.out, bA, bB, bC]) hb); replace B17 := aM (bD (g := gb117) (o := .cells #[.int .i64 t120, .slice Ao52 t121.length co52] 25 (0, 0)) (by with_reducible apply_rules [B17.out, bA, bB, bC]) hb); replace B18 := aM (bD (g := gb118) (o := .cells #[.int .i64 0, .slice none 0 0] 25 (0, 0)) (by with_reducible apply_rules [B18.out, bA, bB, bC]) hb); replace HB := aM (pS_ (by (with_reducible apply_rules [HB.out, pA, pD, pE, sT, GE112.out, GE113.out, GE117.out, GE118.out])) hb); (try clear hb); (try clear hb2); (try clear hk); (try clear hi)))
         go_meet
         case rel => exact ⟨_, (x7_42), (x10_42), (0), (1), (t120), (t121), (0), (([] : List (S67))), (.slice Ao52 t121.length co52), (.slice none 0 0), (by first | rfl | (simp; done) | (simp [*]; done)), (by first | rfl | (simp; done) | (simp [*]; done)), (by first | rfl | (simp; done) | (simp [*]; done)), H', ⟨by have := HJ3.out; have := HJ42.out; first | omega | exact Nat.le_refl _⟩, ⟨by with_reducible apply_rules [HO_7.out, rA, rB, rC]⟩, ⟨by (with_reducible repeat (first | apply rA | apply rB | apply rC)); exact rE HO_118001.out (fun _ hk => (by simp [Value.ownBlock]))⟩, ⟨by first | exact Kd.R_nil _ _ _ _ _ | exact Kd.N_nil _ _ _ _ _ | exact Kd.V_nil _ _ _ _ _ | exact Kd.Q_nil _ _ _ _ _ | exact Kd.S_nil _ _ _ _ _⟩, ⟨by with_reducible apply_rules [B12.out, bA, bB, bC]⟩, ⟨by with_reducible apply_rules [B13.out, bA, bB, bC]⟩, ⟨by with_reducible apply_rules [B17.out, bA, bB, bC]⟩, ⟨by with_reducible apply_rules [B18.out, bA, bB, bC]⟩, ⟨by (with_reducible apply_rules [HB.out, pA, pD, pE, sT, GE112.out, GE113.out, GE117.out, GE118.out])⟩⟩
     ·replace c41 := Bool.eq_false_iff.mpr c41
      subst c41
      have H1 : (commodatumlaw12_UndoRuns.j2 kj3 l2 ([] : List Bool) 1 1 1 a0_0 l0_1 a1_0 l1_1 0 ([] : List (S67)) 0 ([] : List (S67))) = some r := by rw [if_neg (show ¬ (false = true) by decide)] at H; exact H
      clear H
      have H := H1
      clear H1
      have H' := aM H
      clear H
      go_wp2
      go_meet
      case rel => exact ⟨_, (([] : List Bool)), (1), (1), (1), (0), (([] : List (S67))), (0), (([] : List (S67))), (.slice none 0 0), (.slice none 0 0), (by first | rfl | (simp; done) | (simp [*]; done)), (by first | rfl | (simp; done) | (simp [*]; done)), (by first | rfl | (simp; done) | (simp [*]; done)), H', ⟨by have := HJ3.out; first | omega | exact Nat.le_refl _⟩, ⟨by first | exact Kd.R_nil _ _ _ _ _ | exact Kd.N_nil _ _ _ _ _ | exact Kd.V_nil _ _ _ _ _ | exact Kd.Q_nil _ _ _ _ _ | exact Kd.S_nil _ _ _ _ _⟩, ⟨by first | exact Kd.R_nil _ _ _ _ _ | exact Kd.N_nil _ _ _ _ _ | exact Kd.V_nil _ _ _ _ _ | exact Kd.Q_nil _ _ _ _ _ | exact Kd.S_nil _ _ _ _ _⟩, ⟨by first | exact Kd.R_nil _ _ _ _ _ | exact Kd.N_nil _ _ _ _ _ | exact Kd.V_nil _ _ _ _ _ | exact Kd.Q_nil _ _ _ _ _ | exact Kd.S_nil _ _ _ _ _⟩, ⟨by with_reducible apply_rules [B12.out, bA, bB, bC]⟩, ⟨by with_reducible apply_rules [B13.out, bA, bB, bC]⟩, ⟨by with_reducible apply_rules [B17.out, bA, bB, bC]⟩, ⟨by with_reducible apply_rules [B18.out, bA, bB, bC]⟩, ⟨by (with_reducible apply_rules [HB.out, pA, pD, pE, sT, GE112.out, GE113.out, GE117.out, GE118.out])⟩⟩
    case rest =>
     clear HC28
     try clear c1
     try clear c2
     try clear p2
     try clear c3
     try clear c4
     try clear c5
     try clear c6
     try clear c7
     try clear c8
     try clear c9
     try clear c10
     try clear c12
     try clear c13
     try clear c14
     try clear c17
     try clear c18
     try clear c19
     try clear c24
     try clear c31
     try clear c32
     try clear c33
     try clear c35
     try clear c36
     try clear c37
     try clear c38
     try clear c39
     try clear c40
     try clear c41
     try clear c44
     try clear c45
     try clear c46
     try clear c49
     try clear c50
     try clear c54
     try clear c54b0
     try clear c54b1
     try clear c56
     try clear c57
     try clear c58
     try clear c62
     try clear c63
     try clear c63b0
     try clear c63b1
     try clear c65
     try clear c66
     try clear c67
     try clear c70
     try clear c71
     try clear c75
     try clear c78
     try clear c79
     try clear c80
     try clear c83
     try clear c84
     try clear c87
     try clear c88
     try clear c89
     try clear hcz10_0
     try clear hcz10_1
     try clear hcz15_0
     try clear hcz15_1
     try clear hcz17_0
     try clear hcz17_1
     try clear hcz20_0
     try clear hcz20_1
     try clear hcz22_0
     try clear hcz22_1
     try clear hcz34_0
     try clear hcz34_1
     try clear hcz37_0
     try clear hcz37_1
     try clear hcz39_0
     try clear hcz39_1
     try clear hcz47_0
     try clear hcz47_1
     try clear hcz51_0
     try clear hcz51_1
     try clear hcz53_0
     try clear hcz53_1
     try clear hcz59_0
     try clear hcz59_1
     try clear hcz68_0
     try clear hcz68_1
     try clear hcz72_0
     try clear hcz72_1
     try clear hcz73_0
     try clear hcz73_1
     try clear hcz76_0
     try clear hcz76_1
     try clear hcz81_0
     try clear hcz81_1
     try clear hcz85_0
     try clear hcz85_1
     try clear hcz86_0
     try clear hcz86_1
     try clear hcz90_0
     try clear hcz90_1
     try clear hfz10_0
     try clear hfz10_1
     try clear hfz15_0
     try clear hfz15_1
     try clear hfz17_0
     try clear hfz17_1
     try clear hfz20_0
     try clear hfz20_1
     try clear hfz22_0
     try clear hfz22_1
     try clear hfz34_0
     try clear hfz34_1
     try clear hfz37_0
     try clear hfz37_1
     try clear hfz39_0
     try clear hfz39_1
     try clear hfz47_0
     try clear hfz47_1
     try clear hfz51_0
     try clear hfz51_1
     try clear hfz53_0
     try clear hfz53_1
     try clear hfz59_0
     try clear hfz59_1
     try clear hfz68_0
     try clear hfz68_1
     try clear hfz72_0
     try clear hfz72_1
     try clear hfz73_0
     try clear hfz73_1
     try clear hfz76_0
     try clear hfz76_1
     try clear hfz81_0
     try clear hfz81_1
     try clear hfz85_0
     try clear hfz85_1
     try clear hfz86_0
     try clear hfz86_1
     try clear hfz90_0
     try clear hfz90_1
     try clear p2
     obtain ⟨kq, x7_27, x10_27, x11_27, x12_27, x118000_27, x118001_27, x119000_27, x119001_27, u118001, u119001, rfl, rfl, rfl, HA, HJ27, HO_7, HO_118001, HO_119001, B12, B13, B17, B18, HB⟩ := hcut
     cases kq with
     | zero => exact absurd HA.out (by simp [commodatumlaw12_UndoRuns.j2])
     | succ kj27 =>
      have H := HA.out
      clear HA
      simp only [commodatumlaw12_UndoRuns.j2] at H
      replace H := Option.bind_eq_some_iff.mp H
      obtain ⟨⟨t132, t133⟩, A920, H⟩ := H
      replace H : ((some (([] : List Bool) : List Bool)).bind fun y136 => (if y136.length + l2.length < 140737488355328 then ((undo_Run.f t132 t133 (y136 ++ l2)).bind fun bt142 => ((commodatumlaw12_Copy.f a0_0 l0_1).bind fun bt146 => ((undo_Inverse.f kj27 bt146.1 bt146.2).bind fun bt150 => ((commodatumlaw12_Copy.f a0_0 l0_1).bind fun bt156 => ((commodatumlaw12_Copy.f a1_0 l1_1).bind fun bt160 => ((undo_Join.f kj27 bt156.1 bt156.2 bt160.1 bt160.2).bind fun bt164 => (if bt142.2 = x10_27 then ((commodatumref12_Equal.f kj27 bt142.1 x7_27).bind fun t170 => (if t170 = true then (if bt150.2.2 = x11_27 then ((commodatumref12_Same.f kj27 bt150.1 bt150.2.1 x118000_27 x118001_27).bind fun t171 => (if t171 = true then (if bt164.2.2 = x12_27 then ((commodatumref12_Same.f kj27 bt164.1 bt164.2.1 x119000_27 x119001_27).bind fun t172 => (if t172 = true then ((commodatumlaw12_Awake.f kj27).bind fun t173 => (some t173)) else (none))) else (none)) else (none))) else (none)) else (none))) else (none)))))))) else (none))) = some r := H
      have A92 := aM A920
      clear A920
      obtain ⟨y136, hy136⟩ : ∃ y_ : List Bool, y_ = (([] : List Bool)) := ⟨_, rfl⟩
      replace H : (if y136.length + l2.length < 140737488355328 then ((undo_Run.f t132 t133 (y136 ++ l2)).bind fun bt142 => ((commodatumlaw12_Copy.f a0_0 l0_1).bind fun bt146 => ((undo_Inverse.f kj27 bt146.1 bt146.2).bind fun bt150 => ((commodatumlaw12_Copy.f a0_0 l0_1).bind fun bt156 => ((commodatumlaw12_Copy.f a1_0 l1_1).bind fun bt160 => ((undo_Join.f kj27 bt156.1 bt156.2 bt160.1 bt160.2).bind fun bt164 => (if bt142.2 = x10_27 then ((commodatumref12_Equal.f kj27 bt142.1 x7_27).bind fun t170 => (if t170 = true then (if bt150.2.2 = x11_27 then ((commodatumref12_Same.f kj27 bt150.1 bt150.2.1 x118000_27 x118001_27).bind fun t171 => (if t171 = true then (if bt164.2.2 = x12_27 then ((commodatumref12_Same.f kj27 bt164.1 bt164.2.1 x119000_27 x119001_27).bind fun t172 => (if t172 = true then ((commodatumlaw12_Awake.f kj27).bind fun t173 => (some t173)) else (none))) else (none)) else (none))) else (none)) else (none))) else (none)))))))) else (none)) = some r := by first | (rw [hy136]; with_reducible exact H) | (have H2_ := (Option.bind_some _ _).symm.trans H; rw [hy136]; with_reducible exact H2_) | (have H2_ := (Option.bind_some _ _).symm.trans H; with_reducible exact H2_) | with_reducible exact H | (rw [hy136]; exact H) | exact H
      have Ny136 := aM hy136
      clear hy136
      by_cases c93 : y136.length + l2.length < 140737488355328
      ·rw [if_pos c93] at H
       have LMc93 := aM c93
       clear c93
       obtain ⟨y139, hy139⟩ : ∃ y_ : List Bool, y_ = (y136 ++ l2) := ⟨_, rfl⟩
       replace H : ((undo_Run.f t132 t133 y139).bind fun bt142 => ((commodatumlaw12_Copy.f a0_0 l0_1).bind fun bt146 => ((undo_Inverse.f kj27 bt146.1 bt146.2).bind fun bt150 => ((commodatumlaw12_Copy.f a0_0 l0_1).bind fun bt156 => ((commodatumlaw12_Copy.f a1_0 l1_1).bind fun bt160 => ((undo_Join.f kj27 bt156.1 bt156.2 bt160.1 bt160.2).bind fun bt164 => (if bt142.2 = x10_27 then ((commodatumref12_Equal.f kj27 bt142.1 x7_27).bind fun t170 => (if t170 = true then (if bt150.2.2 = x11_27 then ((commodatumref12_Same.f kj27 bt150.1 bt150.2.1 x118000_27 x118001_27).bind fun t171 => (if t171 = true then (if bt164.2.2 = x12_27 then ((commodatumref12_Same.f kj27 bt164.1 bt164.2.1 x119000_27 x119001_27).bind fun t172 => (if t172 = true then ((commodatumlaw12_Awake.f kj27).bind fun t173 => (some t173)) else (none))) else (none)) else (none))) else (none)) else (none))) else (none)))))))) = some r := by first | (rw [hy139]; with_reducible exact H) | (have H2_ := (Option.bind_some _ _).symm.trans H; rw [hy139]; with_reducible exact H2_) | (have H2_ := (Option.bind_some _ _).symm.trans H; with_reducible exact H2_) | with_reducible exact H | (rw [hy139]; exact H) | exact H
       have Ny139 := aM hy139
       clear hy139
       replace H := Option.bind_eq_some_iff.mp H
       obtain ⟨⟨t142, t145⟩, A940, H⟩ := H
       replace H : ((commodatumlaw12_Copy.f a0_0 l0_1).bind fun bt146 => ((undo_Inverse.f kj27 bt146.1 bt146.2).bind fun bt150 => ((commodatumlaw12_Copy.f a0_0 l0_1).bind fun bt156 => ((commodatumlaw12_Copy.f a1_0 l1_1).bind fun bt160 => ((undo_Join.f kj27 bt156.1 bt156.2 bt160.1 bt160.2).bind fun bt164 => (if t145 = x10_27 then ((commodatumref12_Equal.f kj27 t142 x7_27).bind fun t170 => (if t170 = true then (if bt150.2.2 = x11_27 then ((commodatumref12_Same.f kj27 bt150.1 bt150.2.1 x118000_27 x118001_27).bind fun t171 => (if t171 = true then (if bt164.2.2 = x12_27 then ((commodatumref12_Same.f kj27 bt164.1 bt164.2.1 x119000_27 x119001_27).bind fun t172 => (if t172 = true then ((commodatumlaw12_Awake.f kj27).bind fun t173 => (some t173)) else (none))) else (none)) else (none))) else (none)) else (none))) else (none))))))) = some r := H
       have A94 := aM A940
       clear A940
       replace H := Option.bind_eq_some_iff.mp H
       obtain ⟨⟨t146, t147⟩, A950, H⟩ := H
       replace H : ((undo_Inverse.f kj27 t146 t147).bind fun bt150 => ((commodatumlaw12_Copy.f a0_0 l0_1).bind fun bt156 => ((commodatumlaw12_Copy.f a1_0 l1_1).bind fun bt160 => ((undo_Join.f kj27 bt156.1 bt156.2 bt160.1 bt160.2).bind fun bt164 => (if t145 = x10_27 then ((commodatumref12_Equal.f kj27 t142 x7_27).bind fun t170 => (if t170 = true then (if bt150.2.2 = x11_27 then ((commodatumref12_Same.f kj27 bt150.1 bt150.2.1 x118000_27 x118001_27).bind fun t171 => (if t171 = true then (if bt164.2.2 = x12_27 then ((commodatumref12_Same.f kj27 bt164.1 bt164.2.1 x119000_27 x119001_27).bind fun t172 => (if t172 = true then ((commodatumlaw12_Awake.f kj27).bind fun t173 => (some t173)) else (none))) else (none)) else (none))) else (none)) else (none))) else (none)))))) = some r := H
       have A95 := aM A950
       clear A950
       replace H := Option.bind_eq_some_iff.mp H
       obtain ⟨⟨t150, t151, t154⟩, A960, H⟩ := H
       replace H : ((commodatumlaw12_Copy.f a0_0 l0_1).bind fun bt156 => ((commodatumlaw12_Copy.f a1_0 l1_1).bind fun bt160 => ((undo_Join.f kj27 bt156.1 bt156.2 bt160.1 bt160.2).bind fun bt164 => (if t145 = x10_27 then ((commodatumref12_Equal.f kj27 t142 x7_27).bind fun t170 => (if t170 = true then (if t154 = x11_27 then ((commodatumref12_Same.f kj27 t150 t151 x118000_27 x118001_27).bind fun t171 => (if t171 = true then (if bt164.2.2 = x12_27 then ((commodatumref12_Same.f kj27 bt164.1 bt164.2.1 x119000_27 x119001_27).bind fun t172 => (if t172 = true then ((commodatumlaw12_Awake.f kj27).bind fun t173 => (some t173)) else (none))) else (none)) else (none))) else (none)) else (none))) else (none))))) = some r := H
       have A96 := aM A960
       clear A960
       replace H := Option.bind_eq_some_iff.mp H
       obtain ⟨⟨t156, t157⟩, A970, H⟩ := H
       replace H : ((commodatumlaw12_Copy.f a1_0 l1_1).bind fun bt160 => ((undo_Join.f kj27 t156 t157 bt160.1 bt160.2).bind fun bt164 => (if t145 = x10_27 then ((commodatumref12_Equal.f kj27 t142 x7_27).bind fun t170 => (if t170 = true then (if t154 = x11_27 then ((commodatumref12_Same.f kj27 t150 t151 x118000_27 x118001_27).bind fun t171 => (if t171 = true then (if bt164.2.2 = x12_27 then ((commodatumref12_Same.f kj27 bt164.1 bt164.2.1 x119000_27 x119001_27).bind fun t172 => (if t172 = true then ((commodatumlaw12_Awake.f kj27).bind fun t173 => (some t173)) else (none))) else (none)) else (none))) else (none)) else (none))) else (none)))) = some r := H
       have A97 := aM A970
       clear A970
       replace H := Option.bind_eq_some_iff.mp H
       obtain ⟨⟨t160, t161⟩, A980, H⟩ := H
       replace H : ((undo_Join.f kj27 t156 t157 t160 t161).bind fun bt164 => (if t145 = x10_27 then ((commodatumref12_Equal.f kj27 t142 x7_27).bind fun t170 => (if t170 = true then (if t154 = x11_27 then ((commodatumref12_Same.f kj27 t150 t151 x118000_27 x118001_27).bind fun t171 => (if t171 = true then (if bt164.2.2 = x12_27 then ((commodatumref12_Same.f kj27 bt164.1 bt164.2.1 x119000_27 x119001_27).bind fun t172 => (if t172 = true then ((commodatumlaw12_Awake.f kj27).bind fun t173 => (some t173)) else (none))) else (none)) else (none))) else (none)) else (none))) else (none))) = some r := H
       have A98 := aM A980
       clear A980
       replace H := Option.bind_eq_some_iff.mp H
       obtain ⟨⟨t164, t165, t168⟩, A990, H⟩ := H
       replace H : (if t145 = x10_27 then ((commodatumref12_Equal.f kj27 t142 x7_27).bind fun t170 => (if t170 = true then (if t154 = x11_27 then ((commodatumref12_Same.f kj27 t150 t151 x118000_27 x118001_27).bind fun t171 => (if t171 = true then (if t168 = x12_27 then ((commodatumref12_Same.f kj27 t164 t165 x119000_27 x119001_27).bind fun t172 => (if t172 = true then ((commodatumlaw12_Awake.f kj27).bind fun t173 => (some t173)) else (none))) else (none)) else (none))) else (none)) else (none))) else (none)) = some r := H
       have A99 := aM A990
       clear A990
       by_cases c100 : t145 = x10_27
       ·rw [if_pos c100] at H
        have c100b0 : (t145 == x10_27) = true := beq_iff_eq.mpr c100
        have c100b1 : (t145 != x10_27) = false := bne_eq_false_iff_eq.mpr c100
        clear c100
        replace H := Option.bind_eq_some_iff.mp H
        obtain ⟨t170, A1010, H⟩ := H
        replace H : (if t170 = true then (if t154 = x11_27 then ((commodatumref12_Same.f kj27 t150 t151 x118000_27 x118001_27).bind fun t171 => (if t171 = true then (if t168 = x12_27 then ((commodatumref12_Same.f kj27 t164 t165 x119000_27 x119001_27).bind fun t172 => (if t172 = true then ((commodatumlaw12_Awake.f kj27).bind fun t173 => (some t173)) else (none))) else (none)) else (none))) else (none)) else (none)) = some r := H
        have A101 := aM A1010
        clear A1010
        by_cases c102 : t170 = true
        ·subst c102
         have H1 : (if t154 = x11_27 then ((commodatumref12_Same.f kj27 t150 t151 x118000_27 x118001_27).bind fun t171 => (if t171 = true then (if t168 = x12_27 then ((commodatumref12_Same.f kj27 t164 t165 x119000_27 x119001_27).bind fun t172 => (if t172 = true then ((commodatumlaw12_Awake.f kj27).bind fun t173 => (some t173)) else (none))) else (none)) else (none))) else (none)) = some r := by rw [if_pos rfl] at H; exact H
         clear H
         have H := H1
         clear H1
         by_cases c103 : t154 = x11_27
         ·rw [if_pos c103] at H
          have c103b0 : (t154 == x11_27) = true := beq_iff_eq.mpr c103
          have c103b1 : (t154 != x11_27) = false := bne_eq_false_iff_eq.mpr c103
          clear c103
          replace H := Option.bind_eq_some_iff.mp H
          obtain ⟨t171, A1040, H⟩ := H
          replace H : (if t171 = true then (if t168 = x12_27 then ((commodatumref12_Same.f kj27 t164 t165 x119000_27 x119001_27).bind fun t172 => (if t172 = true then ((commodatumlaw12_Awake.f kj27).bind fun t173 => (some t173)) else (none))) else (none)) else (none)) = some r := H
          have A104 := aM A1040
          clear A1040
          by_cases c105 : t171 = true
          ·subst c105
           have H1 : (if t168 = x12_27 then ((commodatumref12_Same.f kj27 t164 t165 x119000_27 x119001_27).bind fun t172 => (if t172 = true then ((commodatumlaw12_Awake.f kj27).bind fun t173 => (some t173)) else (none))) else (none)) = some r := by rw [if_pos rfl] at H; exact H
           clear H
           have H := H1
           clear H1
           by_cases c106 : t168 = x12_27
           ·rw [if_pos c106] at H
            have c106b0 : (t168 == x12_27) = true := beq_iff_eq.mpr c106
            have c106b1 : (t168 != x12_27) = false := bne_eq_false_iff_eq.mpr c106
            clear c106
            replace H := Option.bind_eq_some_iff.mp H
            obtain ⟨t172, A1070, H⟩ := H
            replace H : (if t172 = true then ((commodatumlaw12_Awake.f kj27).bind fun t173 => (some t173)) else (none)) = some r := H
            have A107 := aM A1070
            clear A1070
            by_cases c108 : t172 = true
            ·subst c108
             have H1 : ((commodatumlaw12_Awake.f kj27).bind fun t173 => (some t173)) = some r := by rw [if_pos rfl] at H; exact H
             clear H
             have H := H1
             clear H1
             replace H := Option.bind_eq_some_iff.mp H
             obtain ⟨t173, A1090, H⟩ := H
             replace H : (some t173) = some r := H
             have A109 := aM A1090
             clear A1090
             obtain rfl := Option.some.inj H
             have hnb110 := NB112_113.out
             have hnc110 := NB113_112.out
             have hnb111 := NB112_117.out
             have hnc111 := NB117_112.out
             have hnb112 := NB112_118.out
             have hnc112 := NB118_112.out
             have hcz113_0 : wc.cell? ⟨gb112, 0, none⟩ = some (.int .i64 a0_0) := (bE B12.out 0).trans rfl
             have hcz113_1 : wc.cell? ⟨gb112, 1, none⟩ = some (.slice A0_1 l0_1.length c0_1) := (bE B12.out 1).trans rfl
             have hfz113_0 := bF B12.out 0
             have hfz113_1 := bF B12.out 1
             try go_wp2_with (first | ((with_reducible refine gate_callee (f := 24) rfl ?_); refine goesL_ (some 57) rfl rfl Tryd.func24 (by kernel_rfl) rfl #[.agg #[.int .i64 a0_0, .slice A0_1 l0_1.length c0_1]] rfl (by (try simp only [List.map_toArray, List.map_cons, List.map_nil]); first | done | rfl | (simp only [List.length_drop, List.length_take]; rfl)) ?_; (with_reducible refine (commodatumlaw12_Copy.calls a0_0 _ _ l0_1 t132 t133 _ ?side1 ?side2 A92.out).mono ?_); (case side1 => with_reducible apply_rules [(cD HR0_1.out HB.out), cA, cB, cC]); (case side2 => exact HC0_1.out); rintro e w114 ⟨v134, rfl, ho0, hb⟩; refine ⟨_, rfl, ?_⟩; replace HO_7 := aM (rD (by with_reducible apply_rules [HO_7.out, rA, rB, rC]) hb); have HO135 := aM (Kd.R_lower (Kd.R_new' (Kd.R_new' ho0 (Kd.R_lt (by with_reducible apply_rules [HO_118001.out, rA, rB, rC]))) (Kd.R_lt (by with_reducible apply_rules [HO_119001.out, rA, rB, rC]))) (below_size (by (with_reducible apply_rules [HB.out, pA, pD, pE, sT, GE112.out, GE113.out, GE117.out, GE118.out])))); replace HO_118001 := aM (Kd.R_elder' (by with_reducible apply_rules [HO_118001.out, rA, rB, rC]) (Kd.R_base ho0) hb); replace HO_119001 := aM (Kd.R_elder' (by with_reducible apply_rules [HO_119001.out, rA, rB, rC]) (Kd.R_base ho0) hb); replace B12 := aM (bD (g := gb112) (o := .cells #[.int .i64 a0_0, .slice A0_1 l0_1.length c0_1] 25 (0, 0)) (by with_reducible apply_rules [B12.out, bA, bB, bC]) hb); replace B13 := aM (bD (g := gb113) (o := .cells #[.int .i64 a1_0, .slice A1_1 l1_1.length c1_1] 25 (0, 0)) (by with_reducible apply_rules [B13.out, bA, bB, bC]) hb); replace B17 := aM (bD (g := gb117) (o := .cells #[.int .i64 x118000_27, u118001] 25 (0, 0)) (by with_reducible apply_rules [B17.out, bA, bB, bC]) hb); replace B18 := aM (bD (g := gb118) (o := .cells #[.int .i64 x119000_27, u119001] 25 (0, 0)) (by with_reducible apply_rules [B18.out, bA, bB, bC]) hb); replace HB := aM (pS_ (by (with_reducible apply_rules [HB.out, pA, pD, pE, sT, GE112.out, GE113.out, GE117.out, GE118.out])) hb); (try clear hb); (try clear hb2); (try clear hk); (try clear hi); (try clear ho0)) | ((with_reducible refine gate_dst (N := 58) rfl ?_); (try (refine gate_guard (by rfl) ?_; dsimp only)); refine Kd.R_lit Kd.bool _ 4 ?hg (N := 58) ?hd (xs := ([] : List Bool)) (inner := []) (ok := fun _ => True) (okp := fun _ => True) ?hr ?hp (fun _ hk => hk) trivial (Below.refl _ _) (Nat.le_refl _) (by simp) ?_; (case hd => rfl); (case hg => rfl); (case hr => first | (go_simp; done) | (go_simp; rfl)); (case hp => exact (Reps.none _ _)); intro v137 w115 ho116 hb hg_ hnew_; clear hg_ hnew_; (first | rw [← Ny136.out] at ho116 | (simp only [Int.reduceToNat] at ho116; rw [← Ny136.out] at ho116)); replace HO_118001 := aM (rD (by with_reducible apply_rules [HO_118001.out, rA, rB, rC]) hb); replace HO_119001 := aM (rD (by with_reducible apply_rules [HO_119001.out, rA, rB, rC]) hb); replace HO135 := aM (rD (by with_reducible apply_rules [HO135.out, rA, rB, rC]) hb); have HO138 := aM (Kd.R_lower (Kd.R_new' ho116 (Kd.R_lt (by with_reducible apply_rules [HO_7.out, rA, rB, rC]))) (below_size (by (with_reducible apply_rules [HB.out, pA, pD, pE, sT, GE112.out, GE113.out, GE117.out, GE118.out])))); replace HO_7 := aM (Kd.R_elder' (by with_reducible apply_rules [HO_7.out, rA, rB, rC]) (Kd.R_base ho116) hb); replace B12 := aM (bD (g := gb112) (o := .cells #[.int .i64 a0_0, .slice A0_1 l0_1.length c0_1] 25 (0, 0)) (by with_reducible apply_rules [B12.out, bA, bB, bC]) hb); replace B13 := aM (bD (g := gb113) (o := .cells #[.int .i64 a1_0, .slice A1_1 l1_1.length c1_1] 25 (0, 0)) (by with_reducible apply_rules [B13.out, bA, bB, bC]) hb); replace B17 := aM (bD (g := gb117) (o := .cells #[.int .i64 x118000_27, u118001] 25 (0, 0)) (by with_reducible apply_rules [B17.out, bA, bB, bC]) hb); replace B18 := aM (bD (g := gb118) (o := .cells #[.int .i64 x119000_27, u119001] 25 (0, 0)) (by with_reducible apply_rules [B18.out, bA, bB, bC]) hb); replace HB := aM (pS_ (by (with_reducible apply_rules [HB.out, pA, pD, pE, sT, GE112.out, GE113.out, GE117.out, GE118.out])) hb); clear hb ho116) | ((with_reducible refine gate_builtin (b := .append) (xs := #[.tmp 58, .tmp 59]) rfl ?_); (try (refine gate_guard (by rfl) ?_; dsimp only)); at_builtin; refine Kd.R_append_rows Kd.bool (w0 := w) w.heap.size rfl (.tmp 58) (.tmp 59) 34 4 (.bool false) 1 rfl Tryd.underlying34 info4 rfl (by decide) (by omega) v137 y136 l2 _ _ _ (fun k_ => some k_ ≠ (u7 : Value).ownBlock) (fun _ => False) rfl rfl ?aO ?aR (fun _ _ h => h) (fun _ h => h.elim) ?aF ?aB ?aS ?aL ?_; (case aR => with_reducible apply_rules [(cD HR2.out HB.out), cA, cB, cC]); (case aB => exact (by (with_reducible apply_rules [HB.out, pA, pD, pE, sT, GE112.out, GE113.out, GE117.out, GE118.out]))); (case aF => exact (fun k_ hk => Kd.fresh' (Kd.R_lt (by with_reducible apply_rules [HO_7.out, rA, rB, rC])) k_ hk)); (case aO => exact (by (with_reducible repeat (first | apply rA | apply rB | apply rC)); exact rE HO138.out (fun _ hk => hk.2))); (case aS => exact (below_size (by (with_reducible apply_rules [HB.out, pA, pD, pE, sT, GE112.out, GE113.out, GE117.out, GE118.out])))); (case aL => have := LMc93.out; omega); intro v140 w117 ho hb hg hat; rw [← Ny139.out] at ho; replace HO_7 := aM (Kd.R_after (ok := (fun _ => True)) (by with_reducible apply_rules [HO_7.out, rA, rB, rC]) hg hat); replace HO_118001 := aM (Kd.R_over' (by with_reducible apply_rules [HO_118001.out, rA, rB, rC]) (Kd.R_typed (by with_reducible apply_rules [HO138.out, rA, rB, rC])) (by decide) hg); replace HO_119001 := aM (Kd.R_over' (by with_reducible apply_rules [HO_119001.out, rA, rB, rC]) (Kd.R_typed (by with_reducible apply_rules [HO138.out, rA, rB, rC])) (by decide) hg); replace B12 := aM (blk_grown (g := gb112) (o := .cells #[.int .i64 a0_0, .slice A0_1 l0_1.length c0_1] 25 (0, 0)) (by with_reducible apply_rules [B12.out, bA, bB, bC]) hg (Kd.R_ne HO138.out B12.out (by decide))); replace B13 := aM (blk_grown (g := gb113) (o := .cells #[.int .i64 a1_0, .slice A1_1 l1_1.length c1_1] 25 (0, 0)) (by with_reducible apply_rules [B13.out, bA, bB, bC]) hg (Kd.R_ne HO138.out B13.out (by decide))); replace B17 := aM (blk_grown (g := gb117) (o := .cells #[.int .i64 x118000_27, u118001] 25 (0, 0)) (by with_reducible apply_rules [B17.out, bA, bB, bC]) hg (Kd.R_ne HO138.out B17.out (by decide))); replace B18 := aM (blk_grown (g := gb118) (o := .cells #[.int .i64 x119000_27, u119001] 25 (0, 0)) (by with_reducible apply_rules [B18.out, bA, bB, bC]) hg (Kd.R_ne HO138.out B18.out (by decide))); replace HO135 := aM (Kd.R_over' (by with_reducible apply_rules [HO135.out, rA, rB, rC]) (Kd.R_typed (by with_reducible apply_rules [HO138.out, rA, rB, rC])) (by decide) hg); replace HB := aM (hb); have HO141 := aM (ho); clear HO138; clear ho hb hg hat; obtain ⟨Ao118, co118, eo118⟩ := Kd.R_slice HO135.out; subst eo118; obtain ⟨Ao119, co119, eo119⟩ := Kd.R_slice HO141.out; subst eo119) | ((with_reducible refine gate_callee (f := 30) rfl ?_); refine goesL_ (some 61) rfl rfl Tryd.func30 (by kernel_rfl) rfl #[.agg #[.int .i64 t132, .slice Ao118 t133.length co118], .slice Ao119 y139.length co119] rfl (by (try simp only [List.map_toArray, List.map_cons, List.map_nil]); first | done | rfl | (simp only [List.length_drop, List.length_take]; rfl)) ?_; (with_reducible refine (undo_Run.calls t132 _ _ t133 _ _ y139 t142 t145 _ ?side1 ?side2 ?side3 ?side4 A94.out).mono ?_); (case side1 => repeat (first | exact (Kd.R_reads' HO135.out).2.2 | (with_reducible refine cA ?_ _) | (with_reducible refine cB ?_ _) | (with_reducible refine cC ?_))); (case side2 => exact (Kd.R_reads' HO135.out).2.1); (case side3 => repeat (first | exact (Kd.R_reads' HO141.out).2.2 | (with_reducible refine cA ?_ _) | (with_reducible refine cB ?_ _) | (with_reducible refine cC ?_))); (case side4 => exact (Kd.R_reads' HO141.out).2.1); rintro e w120 ⟨v143, rfl, ho0, hb⟩; refine ⟨_, rfl, ?_⟩; replace HO_118001 := aM (rD (by with_reducible apply_rules [HO_118001.out, rA, rB, rC]) hb); replace HO_119001 := aM (rD (by with_reducible apply_rules [HO_119001.out, rA, rB, rC]) hb); replace HO135 := aM (rD (by with_reducible apply_rules [HO135.out, rA, rB, rC]) hb); have HO144 := aM (Kd.R_lower (Kd.R_new' (Kd.R_new' ho0 (Kd.R_lt (by with_reducible apply_rules [HO_7.out, rA, rB, rC]))) (Kd.R_lt (by with_reducible apply_rules [HO141.out, rA, rB, rC]))) (below_size (by (with_reducible apply_rules [HB.out, pA, pD, pE, sT, GE112.out, GE113.out, GE117.out, GE118.out])))); replace HO_7 := aM (Kd.R_elder' (by with_reducible apply_rules [HO_7.out, rA, rB, rC]) (Kd.R_base ho0) hb); replace HO141 := aM (Kd.R_elder' (by with_reducible apply_rules [HO141.out, rA, rB, rC]) (Kd.R_base ho0) hb); replace B12 := aM (bD (g := gb112) (o := .cells #[.int .i64 a0_0, .slice A0_1 l0_1.length c0_1] 25 (0, 0)) (by with_reducible apply_rules [B12.out, bA, bB, bC]) hb); replace B13 := aM (bD (g := gb113) (o := .cells #[.int .i64 a1_0, .slice A1_1 l1_1.length c1_1] 25 (0, 0)) (by with_reducible apply_rules [B13.out, bA, bB, bC]) hb); replace B17 := aM (bD (g := gb117) (o := .cells #[.int .i64 x118000_27, u118001] 25 (0, 0)) (by with_reducible apply_rules [B17.out, bA, bB, bC]) hb); replace B18 := aM (bD (g := gb118) (o := .cells #[.int .i64 x119000_27, u119001] 25 (0, 0)) (by with_reducible apply_rules [B18.out, bA, bB, bC]) hb); replace HB := aM (pS_ (by (with_reducible apply_rules [HB.out, pA, pD, pE, sT, GE112.out, GE113.out, GE117.out, GE118.out])) hb); (try clear hb); (try clear hb2); (try clear hk); (try clear hi); (try clear ho0); have hcz121_0 : w120.cell? ⟨gb112, 0, none⟩ = some (.int .i64 a0_0) := (bE B12.out 0).trans rfl; have hcz121_1 : w120.cell? ⟨gb112, 1, none⟩ = some (.slice A0_1 l0_1.length c0_1) := (bE B12.out 1).trans rfl; have hfz121_0 := bF B12.out 0; have hfz121_1 := bF B12.out 1) | ((with_reducible refine gate_callee (f := 24) rfl ?_); refine goesL_ (some 66) rfl rfl Tryd.func24 (by kernel_rfl) rfl #[.agg #[.int .i64 a0_0, .slice A0_1 l0_1.length c0_1]] rfl (by (try simp only [List.map_toArray, List.map_cons, List.map_nil]); first | done | rfl | (simp only [List.length_drop, List.length_take]; rfl)) ?_; (with_reducible refine (commodatumlaw12_Copy.calls a0_0 _ _ l0_1 t146 t147 _ ?side1 ?side2 A95.out).mono ?_); (case side1 => with_reducible apply_rules [(cD HR0_1.out HB.out), cA, cB, cC]); (case side2 => exact HC0_1.out); rintro e w122 ⟨v148, rfl, ho0, hb⟩; refine ⟨_, rfl, ?_⟩; replace HO_7 := aM (rD (by with_reducible apply_rules [HO_7.out, rA, rB, rC]) hb); replace HO141 := aM (rD (by with_reducible apply_rules [HO141.out, rA, rB, rC]) hb); replace HO144 := aM (rD (by with_reducible apply_rules [HO144.out, rA, rB, rC]) hb); have HO149 := aM (Kd.R_lower (Kd.R_new' (Kd.R_new' (Kd.R_new' ho0 (Kd.R_lt (by with_reducible apply_rules [HO_118001.out, rA, rB, rC]))) (Kd.R_lt (by with_reducible apply_rules [HO_119001.out, rA, rB, rC]))) (Kd.R_lt (by with_reducible apply_rules [HO135.out, rA, rB, rC]))) (below_size (by (with_reducible apply_rules [HB.out, pA, pD, pE, sT, GE112.out, GE113.out, GE117.out, GE118.out])))); replace HO_118001 := aM (Kd.R_elder' (by with_reducible apply_rules [HO_118001.out, rA, rB, rC]) (Kd.R_base ho0) hb); replace HO_119001 := aM (Kd.R_elder' (by with_reducible apply_rules [HO_119001.out, rA, rB, rC]) (Kd.R_base ho0) hb); replace HO135 := aM (Kd.R_elder' (by with_reducible apply_rules [HO135.out, rA, rB, rC]) (Kd.R_base ho0) hb); replace B12 := aM (bD (g := gb112) (o := .cells #[.int .i64 a0_0, .slice A0_1 l0_1.length c0_1] 25 (0, 0)) (by with_reducible apply_rules [B12.out, bA, bB, bC]) hb); replace B13 := aM (bD (g := gb113) (o := .cells #[.int .i64 a1_0, .slice A1_1 l1_1.length c1_1] 25 (0, 0)) (by with_reducible apply_rules [B13.out, bA, bB, bC]) hb); replace B17 := aM (bD (g := gb117) (o := .cells #[.int .i64 x118000_27, u118001] 25 (0, 0)) (by with_reducible apply_rules [B17.out, bA, bB, bC]) hb); replace B18 := aM (bD (g := gb118) (o := .cells #[.int .i64 x119000_27, u119001] 25 (0, 0)) (by with_reducible apply_rules [B18.out, bA, bB, bC]) hb); replace HB := aM (pS_ (by (with_reducible apply_rules [HB.out, pA, pD, pE, sT, GE112.out, GE113.out, GE117.out, GE118.out])) hb); (try clear hb); (try clear hb2); (try clear hk); (try clear hi); (try clear ho0); obtain ⟨Ao123, co123, eo123⟩ := Kd.R_slice HO149.out; subst eo123) | ((with_reducible refine gate_callee (f := 31) rfl ?_); refine goesL_ (some 67) rfl rfl Tryd.func31 (by kernel_rfl) rfl #[.agg #[.int .i64 t146, .slice Ao123 t147.length co123]] rfl (by (try simp only [List.map_toArray, List.map_cons, List.map_nil]); first | done | rfl | (simp only [List.length_drop, List.length_take]; rfl)) ?_; (with_reducible refine (undo_Inverse.calls kj27 t146 _ _ t147 t150 t151 t154 _ ?side1 ?side2 A96.out).mono ?_); (case side1 => repeat (first | exact (Kd.R_reads' HO149.out).2.2 | (with_reducible refine cA ?_ _) | (with_reducible refine cB ?_ _) | (with_reducible refine cC ?_))); (case side2 => exact (Kd.R_reads' HO149.out).2.1); rintro e w124 ⟨v152, rfl, ho0, hb⟩; refine ⟨_, rfl, ?_⟩; replace HO_7 := aM (rD (by with_reducible apply_rules [HO_7.out, rA, rB, rC]) hb); replace HO141 := aM (rD (by with_reducible apply_rules [HO141.out, rA, rB, rC]) hb); replace HO144 := aM (rD (by with_reducible apply_rules [HO144.out, rA, rB, rC]) hb); have HO153 := aM (Kd.R_lower (Kd.R_new' (Kd.R_new' (Kd.R_new' (Kd.R_new' ho0 (Kd.R_lt (by with_reducible apply_rules [HO_118001.out, rA, rB, rC]))) (Kd.R_lt (by with_reducible apply_rules [HO_119001.out, rA, rB, rC]))) (Kd.R_lt (by with_reducible apply_rules [HO135.out, rA, rB, rC]))) (Kd.R_lt (by with_reducible apply_rules [HO149.out, rA, rB, rC]))) (below_size (by (with_reducible apply_rules [HB.out, pA, pD, pE, sT, GE112.out, GE113.out, GE117.out, GE118.out])))); replace HO_118001 := aM (Kd.R_elder' (by with_reducible apply_rules [HO_118001.out, rA, rB, rC]) (Kd.R_base ho0) hb); replace HO_119001 := aM (Kd.R_elder' (by with_reducible apply_rules [HO_119001.out, rA, rB, rC]) (Kd.R_base ho0) hb); replace HO135 := aM (Kd.R_elder' (by with_reducible apply_rules [HO135.out, rA, rB, rC]) (Kd.R_base ho0) hb); replace HO149 := aM (Kd.R_elder' (by with_reducible apply_rules [HO149.out, rA, rB, rC]) (Kd.R_base ho0) hb); replace B12 := aM (bD (g := gb112) (o := .cells #[.int .i64 a0_0, .slice A0_1 l0_1.length c0_1] 25 (0, 0)) (by with_reducible apply_rules [B12.out, bA, bB, bC]) hb); replace B13 := aM (bD (g := gb113) (o := .cells #[.int .i64 a1_0, .slice A1_1 l1_1.length c1_1] 25 (0, 0)) (by with_reducible apply_rules [B13.out, bA, bB, bC]) hb); replace B17 := aM (bD (g := gb117) (o := .cells #[.int .i64 x118000_27, u118001] 25 (0, 0)) (by with_reducible apply_rules [B17.out, bA, bB, bC]) hb); replace B18 := aM (bD (g := gb118) (o := .cells #[.int .i64 x119000_27, u119001] 25 (0, 0)) (by with_reducible apply_rules [B18.out, bA, bB, bC]) hb); replace HB := aM (pS_ (by (with_reducible apply_rules [HB.out, pA, pD, pE, sT, GE112.out, GE113.out, GE117.out, GE118.out])) hb); (try clear hb); (try clear hb2); (try clear hk); (try clear hi); (try clear ho0)) | ((with_reducible refine gate_dst (N := 15) rfl ?_); (try (refine gate_guard (by rfl) ?_; dsimp only)); refine box_event ?hg (N := 15) ?hd (cs := #[.int .i64 0, .slice none 0 0]) (t := 25) ?hr ?_; (case hd => rfl); (case hg => rfl); (case hr => first | (go_simp; done) | (go_simp; rfl)); intro gb155 hg w125 hbox hb; replace HO_7 := aM (rD (by with_reducible apply_rules [HO_7.out, rA, rB, rC]) hb); replace HO_118001 := aM (rD (by with_reducible apply_rules [HO_118001.out, rA, rB, rC]) hb); replace HO_119001 := aM (rD (by with_reducible apply_rules [HO_119001.out, rA, rB, rC]) hb); replace HO135 := aM (rD (by with_reducible apply_rules [HO135.out, rA, rB, rC]) hb); replace HO141 := aM (rD (by with_reducible apply_rules [HO141.out, rA, rB, rC]) hb); replace HO144 := aM (rD (by with_reducible apply_rules [HO144.out, rA, rB, rC]) hb); replace HO149 := aM (rD (by with_reducible apply_rules [HO149.out, rA, rB, rC]) hb); replace HO153 := aM (rD (by with_reducible apply_rules [HO153.out, rA, rB, rC]) hb); have B55 := aM (hbox); have GW155 := aM ((by rw [hg]; exact (below_size (by (with_reducible apply_rules [HB.out, pA, pD, pE, sT, GE112.out, GE113.out, GE117.out, GE118.out]))) : w.heap.size ≤ gb155)); have GE155 := aM ((by rw [hg]; exact (below_size (by (with_reducible apply_rules [HB.out, pA, pD, pE, sT, GE112.out, GE113.out, GE117.out, GE118.out]))) : w.heap.size ≤ gb155)); replace HB := aM (pS_ (by (with_reducible apply_rules [HB.out, pA, pD, pE, sT, GE112.out, GE113.out, GE117.out, GE118.out])) hb); have NB112_155 := aM ((by rw [hg]; exact Nat.ne_of_lt (blk_lt (g := gb112) (o := .cells #[.int .i64 a0_0, .slice A0_1 l0_1.length c0_1] 25 (0, 0)) (by with_reducible apply_rules [B12.out, bA, bB, bC])) : gb112 ≠ gb155)); have NB155_112 := aM ((by rw [hg]; exact Nat.ne_of_gt (blk_lt (g := gb112) (o := .cells #[.int .i64 a0_0, .slice A0_1 l0_1.length c0_1] 25 (0, 0)) (by with_reducible apply_rules [B12.out, bA, bB, bC])) : gb155 ≠ gb112)); replace B12 := aM (bD (g := gb112) (o := .cells #[.int .i64 a0_0, .slice A0_1 l0_1.length c0_1] 25 (0, 0)) (by with_reducible apply_rules [B12.out, bA, bB, bC]) hb); have NB113_155 := aM ((by rw [hg]; exact Nat.ne_of_lt (blk_lt (g := gb113) (o := .cells #[.int .i64 a1_0, .slice A1_1 l1_1.length c1_1] 25 (0, 0)) (by with_reducible apply_rules [B13.out, bA, bB, bC])) : gb113 ≠ gb155)); have NB155_113 := aM ((by rw [hg]; exact Nat.ne_of_gt (blk_lt (g := gb113) (o := .cells #[.int .i64 a1_0, .slice A1_1 l1_1.length c1_1] 25 (0, 0)) (by with_reducible apply_rules [B13.out, bA, bB, bC])) : gb155 ≠ gb113)); replace B13 := aM (bD (g := gb113) (o := .cells #[.int .i64 a1_0, .slice A1_1 l1_1.length c1_1] 25 (0, 0)) (by with_reducible apply_rules [B13.out, bA, bB, bC]) hb); have NB117_155 := aM ((by rw [hg]; exact Nat.ne_of_lt (blk_lt (g := gb117) (o := .cells #[.int .i64 x118000_27, u118001] 25 (0, 0)) (by with_reducible apply_rules [B17.out, bA, bB, bC])) : gb117 ≠ gb155)); have NB155_117 := aM ((by rw [hg]; exact Nat.ne_of_gt (blk_lt (g := gb117) (o := .cells #[.int .i64 x118000_27, u118001] 25 (0, 0)) (by with_reducible apply_rules [B17.out, bA, bB, bC])) : gb155 ≠ gb117)); replace B17 := aM (bD (g := gb117) (o := .cells #[.int .i64 x118000_27, u118001] 25 (0, 0)) (by with_reducible apply_rules [B17.out, bA, bB, bC]) hb); have NB118_155 := aM ((by rw [hg]; exact Nat.ne_of_lt (blk_lt (g := gb118) (o := .cells #[.int .i64 x119000_27, u119001] 25 (0, 0)) (by with_reducible apply_rules [B18.out, bA, bB, bC])) : gb118 ≠ gb155)); have NB155_118 := aM ((by rw [hg]; exact Nat.ne_of_gt (blk_lt (g := gb118) (o := .cells #[.int .i64 x119000_27, u119001] 25 (0, 0)) (by with_reducible apply_rules [B18.out, bA, bB, bC])) : gb155 ≠ gb118)); replace B18 := aM (bD (g := gb118) (o := .cells #[.int .i64 x119000_27, u119001] 25 (0, 0)) (by with_reducible apply_rules [B18.out, bA, bB, bC]) hb); clear hb hbox hg; have hnb126 := NB155_112.out; have hnc126 := NB112_155.out; have hnb127 := NB155_113.out; have hnc127 := NB113_155.out; have hnb128 := NB155_117.out; have hnc128 := NB117_155.out; have hnb129 := NB155_118.out; have hnc129 := NB118_155.out; have hcz130_0 : w125.cell? ⟨gb155, 0, none⟩ = some (.int .i64 0) := (bE B55.out 0).trans rfl; have hcz130_1 : w125.cell? ⟨gb155, 1, none⟩ = some (.slice none 0 0) := (bE B55.out 1).trans rfl; have hfz130_0 := bF B55.out 0; have hfz130_1 := bF B55.out 1; obtain ⟨Ao131, co131, eo131⟩ := Kd.R_slice HO153.out; subst eo131))
             have n0_ : Aside0 (Kd.R Kd.bool 4 ((w125.setCell ⟨gb155, 0, none⟩ (.int .i64 t150)).setCell ⟨gb155, 1, none⟩ (.slice Ao131 t151.length co131)) w.heap.size (fun k_ => some k_ ≠ (.slice Ao119 y139.length co119 : Value).ownBlock ∧ some k_ ≠ (v143 : Value).ownBlock) u7 x7_27) := ⟨by (with_reducible repeat (first | apply rA | apply rB | apply rC)); exact rE (Kd.R_far (p := ⟨gb155, 1, none⟩) (Kd.R_far (p := ⟨gb155, 0, none⟩) (Kd.R_types HO_7.out B55.out (by decide)) (fun _ hk => hk.2) (.int .i64 t150)) (fun _ hk => hk.2) (.slice Ao131 t151.length co131)) (fun _ hk => ⟨hk.1.1.2, hk.1.2⟩)⟩
             have n1_ : Aside0 (Kd.R k67 67 ((w125.setCell ⟨gb155, 0, none⟩ (.int .i64 t150)).setCell ⟨gb155, 1, none⟩ (.slice Ao131 t151.length co131)) w.heap.size (fun k_ => some k_ ≠ (u119001 : Value).ownBlock ∧ some k_ ≠ (.slice Ao118 t133.length co118 : Value).ownBlock ∧ some k_ ≠ (.slice Ao123 t147.length co123 : Value).ownBlock ∧ some k_ ≠ (.slice Ao131 t151.length co131 : Value).ownBlock) u118001 x118001_27) := ⟨by (with_reducible repeat (first | apply rA | apply rB | apply rC)); exact rE (Kd.R_far (p := ⟨gb155, 1, none⟩) (Kd.R_far (p := ⟨gb155, 0, none⟩) (Kd.R_types HO_118001.out B55.out (by decide)) (fun _ hk => hk.2) (.int .i64 t150)) (fun _ hk => hk.2) (.slice Ao131 t151.length co131)) (fun _ hk => ⟨hk.1.1.1.1, ⟨hk.1.1.1.2, ⟨hk.1.1.2, hk.1.2⟩⟩⟩)⟩
             have n2_ : Aside0 (Kd.R k67 67 ((w125.setCell ⟨gb155, 0, none⟩ (.int .i64 t150)).setCell ⟨gb155, 1, none⟩ (.slice Ao131 t151.length co131)) w.heap.size (fun k_ => some k_ ≠ (u118001 : Value).ownBlock ∧ some k_ ≠ (.slice Ao118 t133.length co118 : Value).ownBlock ∧ some k_ ≠ (.slice Ao123 t147.length co123 : Value).ownBlock ∧ some k_ ≠ (.slice Ao131 t151.length co131 : Value).ownBlock) u119001 x119001_27) := ⟨by (with_reducible repeat (first | apply rA | apply rB | apply rC)); exact rE (Kd.R_far (p := ⟨gb155, 1, none⟩) (Kd.R_far (p := ⟨gb155, 0, none⟩) (Kd.R_types HO_119001.out B55.out (by decide)) (fun _ hk => hk.2) (.int .i64 t150)) (fun _ hk => hk.2) (.slice Ao131 t151.length co131)) (fun _ hk => ⟨hk.1.1.1.1, ⟨hk.1.1.1.2, ⟨hk.1.1.2, hk.1.2⟩⟩⟩)⟩
             have n3_ : Aside0 (Kd.R k67 67 ((w125.setCell ⟨gb155, 0, none⟩ (.int .i64 t150)).setCell ⟨gb155, 1, none⟩ (.slice Ao131 t151.length co131)) w.heap.size (fun k_ => some k_ ≠ (u118001 : Value).ownBlock ∧ some k_ ≠ (u119001 : Value).ownBlock ∧ some k_ ≠ (.slice Ao123 t147.length co123 : Value).ownBlock ∧ some k_ ≠ (.slice Ao131 t151.length co131 : Value).ownBlock) (.slice Ao118 t133.length co118) t133) := ⟨by (with_reducible repeat (first | apply rA | apply rB | apply rC)); exact rE (Kd.R_far (p := ⟨gb155, 1, none⟩) (Kd.R_far (p := ⟨gb155, 0, none⟩) (Kd.R_types HO135.out B55.out (by decide)) (fun _ hk => hk.2) (.int .i64 t150)) (fun _ hk => hk.2) (.slice Ao131 t151.length co131)) (fun _ hk => ⟨hk.1.1.1.1.2, ⟨hk.1.1.1.2, ⟨hk.1.1.2, hk.1.2⟩⟩⟩)⟩
             have n4_ : Aside0 (Kd.R Kd.bool 4 ((w125.setCell ⟨gb155, 0, none⟩ (.int .i64 t150)).setCell ⟨gb155, 1, none⟩ (.slice Ao131 t151.length co131)) w.heap.size (fun k_ => some k_ ≠ (u7 : Value).ownBlock ∧ some k_ ≠ (v143 : Value).ownBlock) (.slice Ao119 y139.length co119) y139) := ⟨by (with_reducible repeat (first | apply rA | apply rB | apply rC)); exact rE (Kd.R_far (p := ⟨gb155, 1, none⟩) (Kd.R_far (p := ⟨gb155, 0, none⟩) (Kd.R_types HO141.out B55.out (by decide)) (fun _ hk => hk.2) (.int .i64 t150)) (fun _ hk => hk.2) (.slice Ao131 t151.length co131)) (fun _ hk => ⟨hk.1.1, hk.1.2⟩)⟩
             have n5_ : Aside0 (Kd.R Kd.bool 4 ((w125.setCell ⟨gb155, 0, none⟩ (.int .i64 t150)).setCell ⟨gb155, 1, none⟩ (.slice Ao131 t151.length co131)) w.heap.size (fun k_ => some k_ ≠ (u7 : Value).ownBlock ∧ some k_ ≠ (.slice Ao119 y139.length co119 : Value).ownBlock) v143 t142) := ⟨by (with_reducible repeat (first | apply rA | apply rB | apply rC)); exact rE (Kd.R_far (p := ⟨gb155, 1, none⟩) (Kd.R_far (p := ⟨gb155, 0, none⟩) (Kd.R_types HO144.out B55.out (by decide)) (fun _ hk => hk.2) (.int .i64 t150)) (fun _ hk => hk.2) (.slice Ao131 t151.length co131)) (fun _ hk => ⟨hk.1.1.2, hk.1.2⟩)⟩
             have n6_ : Aside0 (Kd.R k67 67 ((w125.setCell ⟨gb155, 0, none⟩ (.int .i64 t150)).setCell ⟨gb155, 1, none⟩ (.slice Ao131 t151.length co131)) w.heap.size (fun k_ => some k_ ≠ (u118001 : Value).ownBlock ∧ some k_ ≠ (u119001 : Value).ownBlock ∧ some k_ ≠ (.slice Ao118 t133.length co118 : Value).ownBlock ∧ some k_ ≠ (.slice Ao131 t151.length co131 : Value).ownBlock) (.slice Ao123 t147.length co123) t147) := ⟨by (with_reducible repeat (first | apply rA | apply rB | apply rC)); exact rE (Kd.R_far (p := ⟨gb155, 1, none⟩) (Kd.R_far (p := ⟨gb155, 0, none⟩) (Kd.R_types HO149.out B55.out (by decide)) (fun _ hk => hk.2) (.int .i64 t150)) (fun _ hk => hk.2) (.slice Ao131 t151.length co131)) (fun _ hk => ⟨hk.1.1.1.1.2, ⟨hk.1.1.1.2, ⟨hk.1.1.2, hk.1.2⟩⟩⟩)⟩
             have n7_ : Aside0 (Kd.R k67 67 ((w125.setCell ⟨gb155, 0, none⟩ (.int .i64 t150)).setCell ⟨gb155, 1, none⟩ (.slice Ao131 t151.length co131)) w.heap.size (fun k_ => some k_ ≠ (u118001 : Value).ownBlock ∧ some k_ ≠ (u119001 : Value).ownBlock ∧ some k_ ≠ (.slice Ao118 t133.length co118 : Value).ownBlock ∧ some k_ ≠ (.slice Ao123 t147.length co123 : Value).ownBlock) (.slice Ao131 t151.length co131) t151) := ⟨by (with_reducible repeat (first | apply rA | apply rB | apply rC)); exact rE (Kd.R_far (p := ⟨gb155, 1, none⟩) (Kd.R_far (p := ⟨gb155, 0, none⟩) (Kd.R_types HO153.out B55.out (by decide)) (fun _ hk => hk.2) (.int .i64 t150)) (fun _ hk => hk.2) (.slice Ao131 t151.length co131)) (fun _ hk => ⟨hk.1.1.1.1.2, ⟨hk.1.1.1.2, ⟨hk.1.1.2, hk.1.2⟩⟩⟩)⟩
             have n8_ : Aside0 (((w125.setCell ⟨gb155, 0, none⟩ (.int .i64 t150)).setCell ⟨gb155, 1, none⟩ (.slice Ao131 t151.length co131)).heap[gb112]? = some (.cells #[.int .i64 a0_0, .slice A0_1 l0_1.length c0_1] 25 (0, 0))) := ⟨by (with_reducible repeat (first | refine bA ?_ _ | refine bB ?_ | refine bC ?_ _)); refine bG ?_ NB112_155.out _; (with_reducible repeat (first | refine bA ?_ _ | refine bB ?_ | refine bC ?_ _)); refine bG ?_ NB112_155.out _; with_reducible apply_rules [B12.out, bA, bB, bC]⟩
             have n9_ : Aside0 (((w125.setCell ⟨gb155, 0, none⟩ (.int .i64 t150)).setCell ⟨gb155, 1, none⟩ (.slice Ao131 t151.length co131)).heap[gb113]? = some (.cells #[.int .i64 a1_0, .slice A1_1 l1_1.length c1_1] 25 (0, 0))) := ⟨by (with_reducible repeat (first | refine bA ?_ _ | refine bB ?_ | refine bC ?_ _)); refine bG ?_ NB113_155.out _; (with_reducible repeat (first | refine bA ?_ _ | refine bB ?_ | refine bC ?_ _)); refine bG ?_ NB113_155.out _; with_reducible apply_rules [B13.out, bA, bB, bC]⟩
             have n10_ : Aside0 (((w125.setCell ⟨gb155, 0, none⟩ (.int .i64 t150)).setCell ⟨gb155, 1, none⟩ (.slice Ao131 t151.length co131)).heap[gb117]? = some (.cells #[.int .i64 x118000_27, u118001] 25 (0, 0))) := ⟨by (with_reducible repeat (first | refine bA ?_ _ | refine bB ?_ | refine bC ?_ _)); refine bG ?_ NB117_155.out _; (with_reducible repeat (first | refine bA ?_ _ | refine bB ?_ | refine bC ?_ _)); refine bG ?_ NB117_155.out _; with_reducible apply_rules [B17.out, bA, bB, bC]⟩
             have n11_ : Aside0 (((w125.setCell ⟨gb155, 0, none⟩ (.int .i64 t150)).setCell ⟨gb155, 1, none⟩ (.slice Ao131 t151.length co131)).heap[gb118]? = some (.cells #[.int .i64 x119000_27, u119001] 25 (0, 0))) := ⟨by (with_reducible repeat (first | refine bA ?_ _ | refine bB ?_ | refine bC ?_ _)); refine bG ?_ NB118_155.out _; (with_reducible repeat (first | refine bA ?_ _ | refine bB ?_ | refine bC ?_ _)); refine bG ?_ NB118_155.out _; with_reducible apply_rules [B18.out, bA, bB, bC]⟩
             have n12_ : Aside0 (((w125.setCell ⟨gb155, 0, none⟩ (.int .i64 t150)).setCell ⟨gb155, 1, none⟩ (.slice Ao131 t151.length co131)).heap[gb155]? = some (.cells #[.int .i64 t150, .slice Ao131 t151.length co131] 25 (0, 0))) := ⟨by (with_reducible repeat (first | refine bA ?_ _ | refine bB ?_ | refine bC ?_ _)); refine blk_put (cs := #[.int .i64 t150, .slice none 0 0]) ?_ 1 _ rfl; (with_reducible repeat (first | refine bA ?_ _ | refine bB ?_ | refine bC ?_ _)); refine blk_put (cs := #[.int .i64 0, .slice none 0 0]) ?_ 0 _ rfl; with_reducible apply_rules [B55.out, bA, bB, bC]⟩
             have n13_ : Aside0 (Below w.heap.size w ((w125.setCell ⟨gb155, 0, none⟩ (.int .i64 t150)).setCell ⟨gb155, 1, none⟩ (.slice Ao131 t151.length co131))) := ⟨by (with_reducible apply_rules [HB.out, pA, pD, pE, sT, GE112.out, GE113.out, GE117.out, GE118.out, GE155.out])⟩
             (try clear HO_7)
             (try clear HO_118001)
             (try clear HO_119001)
             (try clear HO135)
             (try clear HO141)
             (try clear HO144)
             (try clear HO149)
             (try clear HO153)
             (try clear B12)
             (try clear B13)
             (try clear B17)
             (try clear B18)
             (try clear B55)
             (try clear HB)
             generalize ((w125.setCell ⟨gb155, 0, none⟩ (.int .i64 t150)).setCell ⟨gb155, 1, none⟩ (.slice Ao131 t151.length co131)) = w132 at n0_ n1_ n2_ n3_ n4_ n5_ n6_ n7_ n8_ n9_ n10_ n11_ n12_ n13_ ⊢
             have HO_7 := n0_
             have HO_118001 := n1_
             have HO_119001 := n2_
             have HO135 := n3_
             have HO141 := n4_
             have HO144 := n5_
             have HO149 := n6_
             have HO153 := n7_
             have B12 := n8_
             have B13 := n9_
             have B17 := n10_
             have B18 := n11_
             have B55 := n12_
             have HB := n13_
             clear n0_ n1_ n2_ n3_ n4_ n5_ n6_ n7_ n8_ n9_ n10_ n11_ n12_ n13_
             replace HO_7 := aM (rC HO_7.out)
             replace HO_118001 := aM (rC HO_118001.out)
             replace HO_119001 := aM (rC HO_119001.out)
             replace HO135 := aM (rC HO135.out)
             replace HO141 := aM (rC HO141.out)
             replace HO144 := aM (rC HO144.out)
             replace HO149 := aM (rC HO149.out)
             replace HO153 := aM (rC HO153.out)
             replace B12 := aM (bB B12.out)
             replace B13 := aM (bB B13.out)
             replace B17 := aM (bB B17.out)
             replace B18 := aM (bB B18.out)
             replace B55 := aM (bB B55.out)
             replace HB := aM (pE HB.out)
             refine start_ (n := 11) (S := fun w' => w'.cell? ⟨gb112, 0, none⟩ = some (.int .i64 a0_0) ∧ w'.cell? ⟨gb112, 1, none⟩ = some (.slice A0_1 l0_1.length c0_1) ∧ w'.cell? ⟨gb113, 0, none⟩ = some (.int .i64 a1_0) ∧ w'.cell? ⟨gb113, 1, none⟩ = some (.slice A1_1 l1_1.length c1_1)) (ds := []) z0u2 (by kernel_rfl) rfl rfl ⟨(bE B12.out 0).trans rfl, (bE B12.out 1).trans rfl, (bE B13.out 0).trans rfl, (bE B13.out 1).trans rfl⟩ (fun hHeld => ?_); refine with_tabW commodatumlaw12_UndoRuns.tab17 commodatumlaw12_UndoRuns.bits17 (fun HT_ HW_ => ?_)
             generalize w132.drew = w133 at HO_7 HO_118001 HO_119001 HO135 HO141 HO144 HO149 HO153 B12 B13 B17 B18 B55 HB hHeld ⊢
             refine take_ (i := 0) (N := some 71) (v := ?_) (a' := ?_) z1u2 rfl rfl (take_ofW HT_.out HW_.out (by kernel_rfl)) (fun _ _ _ h => h) (Or.inl ⟨by rfl, ?_⟩) hHeld ?_ ?_; rotate_left; (rintro w' ⟨s0, s1, s2, s3⟩; go_simp; with_reducible rfl); rotate_left; (simp only [Act.put, pSu2, i64_w]; rfl)
             refine take_ (i := 2) (N := some 73) (v := ?_) (a' := ?_) z2u2 rfl rfl (take_ofW HT_.out HW_.out (by kernel_rfl)) (fun _ _ _ h => h) (Or.inl ⟨by rfl, ?_⟩) hHeld ?_ ?_; rotate_left; (rintro w' ⟨s0, s1, s2, s3⟩; go_simp; with_reducible rfl); rotate_left; (simp only [Act.put, pSu2, i64_w]; rfl)
             refine join_ (σ := Value × Value × Value × Nat) 2 z3u2 (fun s_ => [(72, .agg #[.int .i64 t156, s_.1]), (74, .agg #[.int .i64 t160, s_.2.1]), (75, .tuple #[.agg #[.int .i64 t164, s_.2.2.1], .int .i64 t168]), (17, .pointer (some ⟨s_.2.2.2, 0, none⟩)), (70, .tuple #[.agg #[.int .i64 t164, s_.2.2.1], .int .i64 t168]), (76, .agg #[.int .i64 t164, s_.2.2.1]), (77, .int .i64 t168)]) (fun s_ w' => (w'.cell? ⟨gb112, 0, none⟩ = some (.int .i64 a0_0) ∧ w'.cell? ⟨gb112, 1, none⟩ = some (.slice A0_1 l0_1.length c0_1) ∧ w'.cell? ⟨gb113, 0, none⟩ = some (.int .i64 a1_0) ∧ w'.cell? ⟨gb113, 1, none⟩ = some (.slice A1_1 l1_1.length c1_1)) ∧ (Kd.R k67 67 w' w.heap.size (fun k_ => some k_ ≠ (.slice Ao123 t147.length co123 : Value).ownBlock ∧ some k_ ≠ (.slice Ao131 t151.length co131 : Value).ownBlock ∧ some k_ ≠ (s_.1 : Value).ownBlock ∧ some k_ ≠ (s_.2.1 : Value).ownBlock ∧ some k_ ≠ (s_.2.2.1 : Value).ownBlock ∧ some k_ ≠ (u118001 : Value).ownBlock ∧ some k_ ≠ (u119001 : Value).ownBlock) (.slice Ao118 t133.length co118) t133) ∧ (Kd.R Kd.bool 4 w' w.heap.size (fun k_ => some k_ ≠ (v143 : Value).ownBlock ∧ some k_ ≠ (u7 : Value).ownBlock) (.slice Ao119 y139.length co119) y139) ∧ (Kd.R Kd.bool 4 w' w.heap.size (fun k_ => some k_ ≠ (.slice Ao119 y139.length co119 : Value).ownBlock ∧ some k_ ≠ (u7 : Value).ownBlock) v143 t142) ∧ (Kd.R k67 67 w' w.heap.size (fun k_ => some k_ ≠ (.slice Ao118 t133.length co118 : Value).ownBlock ∧ some k_ ≠ (.slice Ao131 t151.length co131 : Value).ownBlock ∧ some k_ ≠ (s_.1 : Value).ownBlock ∧ some k_ ≠ (s_.2.1 : Value).ownBlock ∧ some k_ ≠ (s_.2.2.1 : Value).ownBlock ∧ some k_ ≠ (u118001 : Value).ownBlock ∧ some k_ ≠ (u119001 : Value).ownBlock) (.slice Ao123 t147.length co123) t147) ∧ (Kd.R k67 67 w' w.heap.size (fun k_ => some k_ ≠ (.slice Ao118 t133.length co118 : Value).ownBlock ∧ some k_ ≠ (.slice Ao123 t147.length co123 : Value).ownBlock ∧ some k_ ≠ (s_.1 : Value).ownBlock ∧ some k_ ≠ (s_.2.1 : Value).ownBlock ∧ some k_ ≠ (s_.2.2.1 : Value).ownBlock ∧ some k_ ≠ (u118001 : Value).ownBlock ∧ some k_ ≠ (u119001 : Value).ownBlock) (.slice Ao131 t151.length co131) t151) ∧ (Kd.R k67 67 w' w.heap.size (fun k_ => some k_ ≠ (.slice Ao118 t133.length co118 : Value).ownBlock ∧ some k_ ≠ (.slice Ao123 t147.length co123 : Value).ownBlock ∧ some k_ ≠ (.slice Ao131 t151.length co131 : Value).ownBlock ∧ some k_ ≠ (s_.2.1 : Value).ownBlock ∧ some k_ ≠ (s_.2.2.1 : Value).ownBlock ∧ some k_ ≠ (u118001 : Value).ownBlock ∧ some k_ ≠ (u119001 : Value).ownBlock) s_.1 t157) ∧ (Kd.R k67 67 w' w.heap.size (fun k_ => some k_ ≠ (.slice Ao118 t133.length co118 : Value).ownBlock ∧ some k_ ≠ (.slice Ao123 t147.length co123 : Value).ownBlock ∧ some k_ ≠ (.slice Ao131 t151.length co131 : Value).ownBlock ∧ some k_ ≠ (s_.1 : Value).ownBlock ∧ some k_ ≠ (s_.2.2.1 : Value).ownBlock ∧ some k_ ≠ (u118001 : Value).ownBlock ∧ some k_ ≠ (u119001 : Value).ownBlock) s_.2.1 t161) ∧ (Kd.R k67 67 w' w.heap.size (fun k_ => some k_ ≠ (.slice Ao118 t133.length co118 : Value).ownBlock ∧ some k_ ≠ (.slice Ao123 t147.length co123 : Value).ownBlock ∧ some k_ ≠ (.slice Ao131 t151.length co131 : Value).ownBlock ∧ some k_ ≠ (s_.1 : Value).ownBlock ∧ some k_ ≠ (s_.2.1 : Value).ownBlock ∧ some k_ ≠ (u118001 : Value).ownBlock ∧ some k_ ≠ (u119001 : Value).ownBlock) s_.2.2.1 t165) ∧ (Kd.R k67 67 w' w.heap.size (fun k_ => some k_ ≠ (.slice Ao118 t133.length co118 : Value).ownBlock ∧ some k_ ≠ (.slice Ao123 t147.length co123 : Value).ownBlock ∧ some k_ ≠ (.slice Ao131 t151.length co131 : Value).ownBlock ∧ some k_ ≠ (s_.1 : Value).ownBlock ∧ some k_ ≠ (s_.2.1 : Value).ownBlock ∧ some k_ ≠ (s_.2.2.1 : Value).ownBlock ∧ some k_ ≠ (u119001 : Value).ownBlock) u118001 x118001_27) ∧ (Kd.R k67 67 w' w.heap.size (fun k_ => some k_ ≠ (.slice Ao118 t133.length co118 : Value).ownBlock ∧ some k_ ≠ (.slice Ao123 t147.length co123 : Value).ownBlock ∧ some k_ ≠ (.slice Ao131 t151.length co131 : Value).ownBlock ∧ some k_ ≠ (s_.1 : Value).ownBlock ∧ some k_ ≠ (s_.2.1 : Value).ownBlock ∧ some k_ ≠ (s_.2.2.1 : Value).ownBlock ∧ some k_ ≠ (u118001 : Value).ownBlock) u119001 x119001_27) ∧ (Kd.R Kd.bool 4 w' w.heap.size (fun k_ => some k_ ≠ (.slice Ao119 y139.length co119 : Value).ownBlock ∧ some k_ ≠ (v143 : Value).ownBlock) u7 x7_27) ∧ (w'.heap[gb112]? = some (.cells #[.int .i64 a0_0, .slice A0_1 l0_1.length c0_1] 25 (0, 0))) ∧ (w'.heap[gb113]? = some (.cells #[.int .i64 a1_0, .slice A1_1 l1_1.length c1_1] 25 (0, 0))) ∧ (w'.heap[gb117]? = some (.cells #[.int .i64 x118000_27, u118001] 25 (0, 0))) ∧ (w'.heap[gb118]? = some (.cells #[.int .i64 x119000_27, u119001] 25 (0, 0))) ∧ (w'.heap[gb155]? = some (.cells #[.int .i64 t150, .slice Ao131 t151.length co131] 25 (0, 0))) ∧ (w'.heap[s_.2.2.2]? = some (.cells #[.int .i64 0, .slice none 0 0] 25 (0, 0))) ∧ (w.heap.size ≤ s_.2.2.2) ∧ (w.heap.size ≤ s_.2.2.2) ∧ (gb112 ≠ s_.2.2.2) ∧ (s_.2.2.2 ≠ gb112) ∧ (gb113 ≠ s_.2.2.2) ∧ (s_.2.2.2 ≠ gb113) ∧ (gb117 ≠ s_.2.2.2) ∧ (s_.2.2.2 ≠ gb117) ∧ (gb118 ≠ s_.2.2.2) ∧ (s_.2.2.2 ≠ gb118) ∧ (gb155 ≠ s_.2.2.2) ∧ (s_.2.2.2 ≠ gb155) ∧ (Below w.heap.size w w')) ?_ ?_
             rotate_left
             ·intro hCont
              refine two_ (i := 1) (j := 8) (Ni := some 72) (Nj := some 17) z4u2 z5u2 rfl rfl rfl rfl (two_of HT_.out (by kernel_rfl)) (by decide) (by decide) (fun K hK => ?_) (fun K hK => ?_)
              ·skip
               refine goes_ Tryd.func24 (by kernel_rfl) rfl #[.agg #[.int .i64 a0_0, .slice A0_1 l0_1.length c0_1]] (by rfl) rfl rfl (by (try simp only [List.map_toArray, List.map_cons, List.map_nil]); first | done | rfl | (simp only [List.length_drop, List.length_take]; rfl)) ?_
               with_reducible refine (commodatumlaw12_Copy.calls a0_0 _ _ l0_1 t156 t157 _ ?side1 ?side2 A97.out).mono ?_
               (case side1 => with_reducible apply_rules [(cD HR0_1.out HB.out), cA, cB, cC])
               (case side2 => exact HC0_1.out)
               rintro e w134 ⟨v158, rfl, ho0, hb⟩
               refine ⟨_, rfl, ?_⟩
               replace HO_7 := aM (rD (by with_reducible apply_rules [HO_7.out, rA, rB, rC]) hb)
               replace HO141 := aM (rD (by with_reducible apply_rules [HO141.out, rA, rB, rC]) hb)
               replace HO144 := aM (rD (by with_reducible apply_rules [HO144.out, rA, rB, rC]) hb)
               have HO159 := aM (Kd.R_lower (Kd.R_new' (Kd.R_new' (Kd.R_new' (Kd.R_new' (Kd.R_new' ho0 (Kd.R_lt (by with_reducible apply_rules [HO_118001.out, rA, rB, rC]))) (Kd.R_lt (by with_reducible apply_rules [HO_119001.out, rA, rB, rC]))) (Kd.R_lt (by with_reducible apply_rules [HO135.out, rA, rB, rC]))) (Kd.R_lt (by with_reducible apply_rules [HO149.out, rA, rB, rC]))) (Kd.R_lt (by with_reducible apply_rules [HO153.out, rA, rB, rC]))) (below_size (by (with_reducible apply_rules [HB.out, pA, pD, pE, sT, GE112.out, GE113.out, GE117.out, GE118.out, GE155.out]))))
               replace HO_118001 := aM (Kd.R_elder' (by with_reducible apply_rules [HO_118001.out, rA, rB, rC]) (Kd.R_base ho0) hb)
               replace HO_119001 := aM (Kd.R_elder' (by with_reducible apply_rules [HO_119001.out, rA, rB, rC]) (Kd.R_base ho0) hb)
               replace HO135 := aM (Kd.R_elder' (by with_reducible apply_rules [HO135.out, rA, rB, rC]) (Kd.R_base ho0) hb)
               replace HO149 := aM (Kd.R_elder' (by with_reducible apply_rules [HO149.out, rA, rB, rC]) (Kd.R_base ho0) hb)
               replace HO153 := aM (Kd.R_elder' (by with_reducible apply_rules [HO153.out, rA, rB, rC]) (Kd.R_base ho0) hb)
               replace B12 := aM (bD (g := gb112) (o := .cells #[.int .i64 a0_0, .slice A0_1 l0_1.length c0_1] 25 (0, 0)) (by with_reducible apply_rules [B12.out, bA, bB, bC]) hb)
               replace B13 := aM (bD (g := gb113) (o := .cells #[.int .i64 a1_0, .slice A1_1 l1_1.length c1_1] 25 (0, 0)) (by with_reducible apply_rules [B13.out, bA, bB, bC]) hb)
               replace B17 := aM (bD (g := gb117) (o := .cells #[.int .i64 x118000_27, u118001] 25 (0, 0)) (by with_reducible apply_rules [B17.out, bA, bB, bC]) hb)
               replace B18 := aM (bD (g := gb118) (o := .cells #[.int .i64 x119000_27, u119001] 25 (0, 0)) (by with_reducible apply_rules [B18.out, bA, bB, bC]) hb)
               replace B55 := aM (bD (g := gb155) (o := .cells #[.int .i64 t150, .slice Ao131 t151.length co131] 25 (0, 0)) (by with_reducible apply_rules [B55.out, bA, bB, bC]) hb)
               replace HB := aM (pS_ (by (with_reducible apply_rules [HB.out, pA, pD, pE, sT, GE112.out, GE113.out, GE117.out, GE118.out, GE155.out])) hb)
               (try clear hb)
               (try clear hb2)
               (try clear hk)
               (try clear hi)
               (try clear ho0)
               refine hK.out _ _ ⟨(bE B12.out 0).trans rfl, (bE B12.out 1).trans rfl, (bE B13.out 0).trans rfl, (bE B13.out 1).trans rfl⟩ (fun hHeld => ?_)
               clear hK K
               refine norm_ (a' := ?_) ?_ ?_
               rotate_left
               ·show Act.put _ (some 72) _ = _
                simp only [Act.put, pSu2, i64_w]
                rfl
               refine two_ (i := 3) (j := 8) (Ni := some 74) (Nj := some 17) z6u2 z7u2 rfl rfl rfl rfl (two_of HT_.out (by kernel_rfl)) (by decide) (by decide) (fun K hK => ?_) (fun K hK => ?_)
               ·skip
                refine goes_ Tryd.func24 (by kernel_rfl) rfl #[.agg #[.int .i64 a1_0, .slice A1_1 l1_1.length c1_1]] (by rfl) rfl rfl (by (try simp only [List.map_toArray, List.map_cons, List.map_nil]); first | done | rfl | (simp only [List.length_drop, List.length_take]; rfl)) ?_
                with_reducible refine (commodatumlaw12_Copy.calls a1_0 _ _ l1_1 t160 t161 _ ?side1 ?side2 A98.out).mono ?_
                (case side1 => with_reducible apply_rules [(cD HR1_1.out HB.out), cA, cB, cC])
                (case side2 => exact HC1_1.out)
                rintro e w135 ⟨v162, rfl, ho0, hb⟩
                refine ⟨_, rfl, ?_⟩
                replace HO_7 := aM (rD (by with_reducible apply_rules [HO_7.out, rA, rB, rC]) hb)
                replace HO141 := aM (rD (by with_reducible apply_rules [HO141.out, rA, rB, rC]) hb)
                replace HO144 := aM (rD (by with_reducible apply_rules [HO144.out, rA, rB, rC]) hb)
                have HO163 := aM (Kd.R_lower (Kd.R_new' (Kd.R_new' (Kd.R_new' (Kd.R_new' (Kd.R_new' (Kd.R_new' ho0 (Kd.R_lt (by with_reducible apply_rules [HO_118001.out, rA, rB, rC]))) (Kd.R_lt (by with_reducible apply_rules [HO_119001.out, rA, rB, rC]))) (Kd.R_lt (by with_reducible apply_rules [HO135.out, rA, rB, rC]))) (Kd.R_lt (by with_reducible apply_rules [HO149.out, rA, rB, rC]))) (Kd.R_lt (by with_reducible apply_rules [HO153.out, rA, rB, rC]))) (Kd.R_lt (by with_reducible apply_rules [HO159.out, rA, rB, rC]))) (below_size (by (with_reducible apply_rules [HB.out, pA, pD, pE, sT, GE112.out, GE113.out, GE117.out, GE118.out, GE155.out]))))
                replace HO_118001 := aM (Kd.R_elder' (by with_reducible apply_rules [HO_118001.out, rA, rB, rC]) (Kd.R_base ho0) hb)
                replace HO_119001 := aM (Kd.R_elder' (by with_reducible apply_rules [HO_119001.out, rA, rB, rC]) (Kd.R_base ho0) hb)
                replace HO135 := aM (Kd.R_elder' (by with_reducible apply_rules [HO135.out, rA, rB, rC]) (Kd.R_base ho0) hb)
                replace HO149 := aM (Kd.R_elder' (by with_reducible apply_rules [HO149.out, rA, rB, rC]) (Kd.R_base ho0) hb)
                replace HO153 := aM (Kd.R_elder' (by with_reducible apply_rules [HO153.out, rA, rB, rC]) (Kd.R_base ho0) hb)
                replace HO159 := aM (Kd.R_elder' (by with_reducible apply_rules [HO159.out, rA, rB, rC]) (Kd.R_base ho0) hb)
                replace B12 := aM (bD (g := gb112) (o := .cells #[.int .i64 a0_0, .slice A0_1 l0_1.length c0_1] 25 (0, 0)) (by with_reducible apply_rules [B12.out, bA, bB, bC]) hb)
                replace B13 := aM (bD (g := gb113) (o := .cells #[.int .i64 a1_0, .slice A1_1 l1_1.length c1_1] 25 (0, 0)) (by with_reducible apply_rules [B13.out, bA, bB, bC]) hb)
                replace B17 := aM (bD (g := gb117) (o := .cells #[.int .i64 x118000_27, u118001] 25 (0, 0)) (by with_reducible apply_rules [B17.out, bA, bB, bC]) hb)
                replace B18 := aM (bD (g := gb118) (o := .cells #[.int .i64 x119000_27, u119001] 25 (0, 0)) (by with_reducible apply_rules [B18.out, bA, bB, bC]) hb)
                replace B55 := aM (bD (g := gb155) (o := .cells #[.int .i64 t150, .slice Ao131 t151.length co131] 25 (0, 0)) (by with_reducible apply_rules [B55.out, bA, bB, bC]) hb)
                replace HB := aM (pS_ (by (with_reducible apply_rules [HB.out, pA, pD, pE, sT, GE112.out, GE113.out, GE117.out, GE118.out, GE155.out])) hb)
                (try clear hb)
                (try clear hb2)
                (try clear hk)
                (try clear hi)
                (try clear ho0)
                obtain ⟨Ao136, co136, eo136⟩ := Kd.R_slice HO159.out
                (first | subst eo136 | (injection eo136 with f1_ f2_ f3_; have f4_ := f1_.symm; have f5_ := f3_.symm; clear f1_ f2_ f3_; subst f4_; subst f5_))
                obtain ⟨Ao137, co137, eo137⟩ := Kd.R_slice HO163.out
                (first | subst eo137 | (injection eo137 with f1_ f2_ f3_; have f4_ := f1_.symm; have f5_ := f3_.symm; clear f1_ f2_ f3_; subst f4_; subst f5_))
                refine hK.out _ _ ⟨(bE B12.out 0).trans rfl, (bE B12.out 1).trans rfl, (bE B13.out 0).trans rfl, (bE B13.out 1).trans rfl⟩ (fun hHeld => ?_)
                clear hK K
                refine norm_ (a' := ?_) ?_ ?_
                rotate_left
                ·show Act.put _ (some 74) _ = _
                 simp only [Act.put, pSu2, i64_w]
                 rfl
                refine two_ (i := 4) (j := 8) (Ni := some 75) (Nj := some 17) z8u2 z9u2 rfl rfl rfl rfl (two_of HT_.out (by kernel_rfl)) (by decide) (by decide) (fun K hK => ?_) (fun K hK => ?_)
                ·skip
                 refine goes_ Tryd.func38 (by kernel_rfl) rfl #[.agg #[.int .i64 t156, .slice Ao136 t157.length co136], .agg #[.int .i64 t160, .slice Ao137 t161.length co137]] (by rfl) rfl rfl (by (try simp only [List.map_toArray, List.map_cons, List.map_nil]); first | done | rfl | (simp only [List.length_drop, List.length_take]; rfl)) ?_
                 with_reducible refine (undo_Join.calls kj27 t156 (fun k_ => some k_ = (.slice Ao136 t157.length co136 : Value).ownBlock) _ _ t157 t160 (fun k_ => some k_ = (.slice Ao137 t161.length co137 : Value).ownBlock) _ _ t161 t164 t165 t168 _ ?side1 ?side2 A99.out).mono ?_
                 (case side1 => exact Kd.R_V (Kd.R_tight rfl (Kd.R_types (Kd.R_types (Kd.R_types (Kd.R_types (Kd.R_types (Kd.R_apart' (Kd.R_apart' (Kd.R_apart' (HO159.out) (Kd.R_typed HO_7.out) (by decide)) (Kd.R_typed HO141.out) (by decide)) (Kd.R_typed HO144.out) (by decide)) B12.out (by decide)) B13.out (by decide)) B17.out (by decide)) B18.out (by decide)) B55.out (by decide))))
                 (case side2 => exact Kd.R_V (Kd.R_tight rfl (Kd.R_types (Kd.R_types (Kd.R_types (Kd.R_types (Kd.R_types (Kd.R_apart' (Kd.R_apart' (Kd.R_apart' (HO163.out) (Kd.R_typed HO_7.out) (by decide)) (Kd.R_typed HO141.out) (by decide)) (Kd.R_typed HO144.out) (by decide)) B12.out (by decide)) B13.out (by decide)) B17.out (by decide)) B18.out (by decide)) B55.out (by decide))))
                 rintro e w138 ⟨v166, rfl, ho0, hb⟩
                 refine ⟨_, rfl, ?_⟩
                 replace HO_7 := aM (rD (by with_reducible apply_rules [HO_7.out, rA, rB, rC]) hb)
                 replace HO141 := aM (rD (by with_reducible apply_rules [HO141.out, rA, rB, rC]) hb)
                 replace HO144 := aM (rD (by with_reducible apply_rules [HO144.out, rA, rB, rC]) hb)
                 have HO167 := aM (Kd.R_lower (Kd.R_new' (Kd.R_new' (Kd.R_new' (Kd.R_new' (Kd.R_new' (Kd.R_new' (Kd.R_new' (rE (ok' := fun k_ => True) ho0 (fun _ hk_ => trivial)) (Kd.R_lt (by with_reducible apply_rules [HO_118001.out, rA, rB, rC]))) (Kd.R_lt (by with_reducible apply_rules [HO_119001.out, rA, rB, rC]))) (Kd.R_lt (by with_reducible apply_rules [HO135.out, rA, rB, rC]))) (Kd.R_lt (by with_reducible apply_rules [HO149.out, rA, rB, rC]))) (Kd.R_lt (by with_reducible apply_rules [HO153.out, rA, rB, rC]))) (Kd.R_lt (by with_reducible apply_rules [HO159.out, rA, rB, rC]))) (Kd.R_lt (by with_reducible apply_rules [HO163.out, rA, rB, rC]))) (below_size (by (with_reducible apply_rules [HB.out, pA, pD, pE, sT, GE112.out, GE113.out, GE117.out, GE118.out, GE155.out]))))
                 replace HO_118001 := aM (Kd.R_elder' (by with_reducible apply_rules [HO_118001.out, rA, rB, rC]) (Kd.R_base ho0) hb)
                 replace HO_119001 := aM (Kd.R_elder' (by with_reducible apply_rules [HO_119001.out, rA, rB, rC]) (Kd.R_base ho0) hb)
                 replace HO135 := aM (Kd.R_elder' (by with_reducible apply_rules [HO135.out, rA, rB, rC]) (Kd.R_base ho0) hb)
                 replace HO149 := aM (Kd.R_elder' (by with_reducible apply_rules [HO149.out, rA, rB, rC]) (Kd.R_base ho0) hb)
                 replace HO153 := aM (Kd.R_elder' (by with_reducible apply_rules [HO153.out, rA, rB, rC]) (Kd.R_base ho0) hb)
                 replace HO159 := aM (Kd.R_elder' (by with_reducible apply_rules [HO159.out, rA, rB, rC]) (Kd.R_base ho0) hb)
                 replace HO163 := aM (Kd.R_elder' (by with_reducible apply_rules [HO163.out, rA, rB, rC]) (Kd.R_base ho0) hb)
                 replace B12 := aM (bD (g := gb112) (o := .cells #[.int .i64 a0_0, .slice A0_1 l0_1.length c0_1] 25 (0, 0)) (by with_reducible apply_rules [B12.out, bA, bB, bC]) hb)
                 replace B13 := aM (bD (g := gb113) (o := .cells #[.int .i64 a1_0, .slice A1_1 l1_1.length c1_1] 25 (0, 0)) (by with_reducible apply_rules [B13.out, bA, bB, bC]) hb)
                 replace B17 := aM (bD (g := gb117) (o := .cells #[.int .i64 x118000_27, u118001] 25 (0, 0)) (by with_reducible apply_rules [B17.out, bA, bB, bC]) hb)
                 replace B18 := aM (bD (g := gb118) (o := .cells #[.int .i64 x119000_27, u119001] 25 (0, 0)) (by with_reducible apply_rules [B18.out, bA, bB, bC]) hb)
                 replace B55 := aM (bD (g := gb155) (o := .cells #[.int .i64 t150, .slice Ao131 t151.length co131] 25 (0, 0)) (by with_reducible apply_rules [B55.out, bA, bB, bC]) hb)
                 replace HB := aM (pS_ (by (with_reducible apply_rules [HB.out, pA, pD, pE, sT, GE112.out, GE113.out, GE117.out, GE118.out, GE155.out])) hb)
                 (try clear hb)
                 (try clear hb2)
                 (try clear hk)
                 (try clear hi)
                 (try clear ho0)
                 refine hK.out _ _ ⟨(bE B12.out 0).trans rfl, (bE B12.out 1).trans rfl, (bE B13.out 0).trans rfl, (bE B13.out 1).trans rfl⟩ (fun hHeld => ?_)
                 clear hK K
                 refine norm_ (a' := ?_) ?_ ?_
                 rotate_left
                 ·show Act.put _ (some 75) _ = _
                  simp only [Act.put, pSu2, i64_w]
                  rfl
                 refine pure_ (i := 5) (N := some 70) (v := ?_) (a' := ?_) z10u2 rfl rfl (any_of HT_.out (by kernel_rfl)) (fun _ _ _ h => h) (Or.inl ⟨by rfl, ?_⟩) ?_ ?_; rotate_left; (intro w'; go_simp; with_reducible rfl); rotate_left; (simp only [Act.put, pSu2, i64_w]; rfl)
                 refine pure_ (i := 6) (N := some 76) (v := ?_) (a' := ?_) z11u2 rfl rfl (any_of HT_.out (by kernel_rfl)) (fun _ _ _ h => h) (Or.inl ⟨by rfl, ?_⟩) ?_ ?_; rotate_left; (intro w'; go_simp; with_reducible rfl); rotate_left; (simp only [Act.put, pSu2, i64_w]; rfl)
                 refine pure_ (i := 7) (N := some 77) (v := ?_) (a' := ?_) z12u2 rfl rfl (any_of HT_.out (by kernel_rfl)) (fun _ _ _ h => h) (Or.inl ⟨by rfl, ?_⟩) ?_ ?_; rotate_left; (intro w'; go_simp; with_reducible rfl); rotate_left; (simp only [Act.put, pSu2, i64_w]; rfl)
                 refine one_ (i := 8) (N := some 17) z3u2 rfl rfl (one_of HT_.out (by kernel_rfl)) (by decide) (fun K hK => ?_)
                 refine box_step ?hg (N := 17) ?hd (cs := #[.int .i64 0, .slice none 0 0]) (t := 25) ?hr ?_; (case hd => rfl); (case hg => rfl); (case hr => first | (go_simp; done) | (go_simp; rfl))
                 intro gb169 hg w139 hbox hb
                 replace HO_7 := aM (rD (by with_reducible apply_rules [HO_7.out, rA, rB, rC]) hb)
                 replace HO_118001 := aM (rD (by with_reducible apply_rules [HO_118001.out, rA, rB, rC]) hb)
                 replace HO_119001 := aM (rD (by with_reducible apply_rules [HO_119001.out, rA, rB, rC]) hb)
                 replace HO135 := aM (rD (by with_reducible apply_rules [HO135.out, rA, rB, rC]) hb)
                 replace HO141 := aM (rD (by with_reducible apply_rules [HO141.out, rA, rB, rC]) hb)
                 replace HO144 := aM (rD (by with_reducible apply_rules [HO144.out, rA, rB, rC]) hb)
                 replace HO149 := aM (rD (by with_reducible apply_rules [HO149.out, rA, rB, rC]) hb)
                 replace HO153 := aM (rD (by with_reducible apply_rules [HO153.out, rA, rB, rC]) hb)
                 replace HO159 := aM (rD (by with_reducible apply_rules [HO159.out, rA, rB, rC]) hb)
                 replace HO163 := aM (rD (by with_reducible apply_rules [HO163.out, rA, rB, rC]) hb)
                 replace HO167 := aM (rD (by with_reducible apply_rules [HO167.out, rA, rB, rC]) hb)
                 have B69 := aM (hbox)
                 have GW169 := aM ((by rw [hg]; exact (below_size (by (with_reducible apply_rules [HB.out, pA, pD, pE, sT, GE112.out, GE113.out, GE117.out, GE118.out, GE155.out]))) : w.heap.size ≤ gb169))
                 have GE169 := aM ((by rw [hg]; exact (below_size (by (with_reducible apply_rules [HB.out, pA, pD, pE, sT, GE112.out, GE113.out, GE117.out, GE118.out, GE155.out]))) : w.heap.size ≤ gb169))
                 replace HB := aM (pS_ (by (with_reducible apply_rules [HB.out, pA, pD, pE, sT, GE112.out, GE113.out, GE117.out, GE118.out, GE155.out])) hb)
                 have NB112_169 := aM ((by rw [hg]; exact Nat.ne_of_lt (blk_lt (g := gb112) (o := .cells #[.int .i64 a0_0, .slice A0_1 l0_1.length c0_1] 25 (0, 0)) (by with_reducible apply_rules [B12.out, bA, bB, bC])) : gb112 ≠ gb169))
                 have NB169_112 := aM ((by rw [hg]; exact Nat.ne_of_gt (blk_lt (g := gb112) (o := .cells #[.int .i64 a0_0, .slice A0_1 l0_1.length c0_1] 25 (0, 0)) (by with_reducible apply_rules [B12.out, bA, bB, bC])) : gb169 ≠ gb112))
                 replace B12 := aM (bD (g := gb112) (o := .cells #[.int .i64 a0_0, .slice A0_1 l0_1.length c0_1] 25 (0, 0)) (by with_reducible apply_rules [B12.out, bA, bB, bC]) hb)
                 have NB113_169 := aM ((by rw [hg]; exact Nat.ne_of_lt (blk_lt (g := gb113) (o := .cells #[.int .i64 a1_0, .slice A1_1 l1_1.length c1_1] 25 (0, 0)) (by with_reducible apply_rules [B13.out, bA, bB, bC])) : gb113 ≠ gb169))
                 have NB169_113 := aM ((by rw [hg]; exact Nat.ne_of_gt (blk_lt (g := gb113) (o := .cells #[.int .i64 a1_0, .slice A1_1 l1_1.length c1_1] 25 (0, 0)) (by with_reducible apply_rules [B13.out, bA, bB, bC])) : gb169 ≠ gb113))
                 replace B13 := aM (bD (g := gb113) (o := .cells #[.int .i64 a1_0, .slice A1_1 l1_1.length c1_1] 25 (0, 0)) (by with_reducible apply_rules [B13.out, bA, bB, bC]) hb)
                 have NB117_169 := aM ((by rw [hg]; exact Nat.ne_of_lt (blk_lt (g := gb117) (o := .cells #[.int .i64 x118000_27, u118001] 25 (0, 0)) (by with_reducible apply_rules [B17.out, bA, bB, bC])) : gb117 ≠ gb169))
                 have NB169_117 := aM ((by rw [hg]; exact Nat.ne_of_gt (blk_lt (g := gb117) (o := .cells #[.int .i64 x118000_27, u118001] 25 (0, 0)) (by with_reducible apply_rules [B17.out, bA, bB, bC])) : gb169 ≠ gb117))
                 replace B17 := aM (bD (g := gb117) (o := .cells #[.int .i64 x118000_27, u118001] 25 (0, 0)) (by with_reducible apply_rules [B17.out, bA, bB, bC]) hb)
                 have NB118_169 := aM ((by rw [hg]; exact Nat.ne_of_lt (blk_lt (g := gb118) (o := .cells #[.int .i64 x119000_27, u119001] 25 (0, 0)) (by with_reducible apply_rules [B18.out, bA, bB, bC])) : gb118 ≠ gb169))
                 have NB169_118 := aM ((by rw [hg]; exact Nat.ne_of_gt (blk_lt (g := gb118) (o := .cells #[.int .i64 x119000_27, u119001] 25 (0, 0)) (by with_reducible apply_rules [B18.out, bA, bB, bC])) : gb169 ≠ gb118))
                 replace B18 := aM (bD (g := gb118) (o := .cells #[.int .i64 x119000_27, u119001] 25 (0, 0)) (by with_reducible apply_rules [B18.out, bA, bB, bC]) hb)
                 have NB155_169 := aM ((by rw [hg]; exact Nat.ne_of_lt (blk_lt (g := gb155) (o := .cells #[.int .i64 t150, .slice Ao131 t151.length co131] 25 (0, 0)) (by with_reducible apply_rules [B55.out, bA, bB, bC])) : gb155 ≠ gb169))
                 have NB169_155 := aM ((by rw [hg]; exact Nat.ne_of_gt (blk_lt (g := gb155) (o := .cells #[.int .i64 t150, .slice Ao131 t151.length co131] 25 (0, 0)) (by with_reducible apply_rules [B55.out, bA, bB, bC])) : gb169 ≠ gb155))
                 replace B55 := aM (bD (g := gb155) (o := .cells #[.int .i64 t150, .slice Ao131 t151.length co131] 25 (0, 0)) (by with_reducible apply_rules [B55.out, bA, bB, bC]) hb)
                 clear hb hbox hg
                 refine hK.out _ _ ⟨(bE B12.out 0).trans rfl, (bE B12.out 1).trans rfl, (bE B13.out 0).trans rfl, (bE B13.out 1).trans rfl⟩ (fun hHeld => ?_)
                 clear hK K
                 refine norm_ (a' := ?_) ?_ ?_
                 rotate_left
                 ·show Act.put _ (some 17) _ = _
                  simp only [Act.put, pSu2, i64_w]
                  rfl
                 exact norm_ (by simp only [putAll, Act.put, pSu2]) (hCont (.slice Ao136 t157.length co136, .slice Ao137 t161.length co137, v166, gb169) _ ⟨hHeld, (by (with_reducible repeat (first | apply rA | apply rB | apply rC)); exact rE HO135.out (fun _ hk => ⟨hk.1.1.1.2.2.1, ⟨hk.1.1.1.2.2.2, ⟨hk.1.1.2, ⟨hk.1.2, ⟨hk.2, ⟨hk.1.1.1.1, hk.1.1.1.2.1⟩⟩⟩⟩⟩⟩)), (by (with_reducible repeat (first | apply rA | apply rB | apply rC)); exact rE HO141.out (fun _ hk => ⟨hk.2, hk.1⟩)), (by (with_reducible repeat (first | apply rA | apply rB | apply rC)); exact rE HO144.out (fun _ hk => ⟨hk.2, hk.1⟩)), (by (with_reducible repeat (first | apply rA | apply rB | apply rC)); exact rE HO149.out (fun _ hk => ⟨hk.1.1.1.2.2.1, ⟨hk.1.1.1.2.2.2, ⟨hk.1.1.2, ⟨hk.1.2, ⟨hk.2, ⟨hk.1.1.1.1, hk.1.1.1.2.1⟩⟩⟩⟩⟩⟩)), (by (with_reducible repeat (first | apply rA | apply rB | apply rC)); exact rE HO153.out (fun _ hk => ⟨hk.1.1.1.2.2.1, ⟨hk.1.1.1.2.2.2, ⟨hk.1.1.2, ⟨hk.1.2, ⟨hk.2, ⟨hk.1.1.1.1, hk.1.1.1.2.1⟩⟩⟩⟩⟩⟩)), (by (with_reducible repeat (first | apply rA | apply rB | apply rC)); exact rE HO159.out (fun _ hk => ⟨hk.1.1.1.1.2, ⟨hk.1.1.1.2, ⟨hk.1.1.2, ⟨hk.1.2, ⟨hk.2, ⟨hk.1.1.1.1.1.1.2, hk.1.1.1.1.1.2⟩⟩⟩⟩⟩⟩)), (by (with_reducible repeat (first | apply rA | apply rB | apply rC)); exact rE HO163.out (fun _ hk => ⟨hk.1.1.1.1.2, ⟨hk.1.1.1.2, ⟨hk.1.1.2, ⟨hk.1.2, ⟨hk.2, ⟨hk.1.1.1.1.1.1.2, hk.1.1.1.1.1.2⟩⟩⟩⟩⟩⟩)), (by (with_reducible repeat (first | apply rA | apply rB | apply rC)); exact rE HO167.out (fun _ hk => ⟨hk.1.1.1.1.2, ⟨hk.1.1.1.2, ⟨hk.1.1.2, ⟨hk.1.2, ⟨hk.2, ⟨hk.1.1.1.1.1.1.2, hk.1.1.1.1.1.2⟩⟩⟩⟩⟩⟩)), (by (with_reducible repeat (first | apply rA | apply rB | apply rC)); exact rE HO_118001.out (fun _ hk => ⟨hk.1.1.1.2.1, ⟨hk.1.1.1.2.2.1, ⟨hk.1.1.1.2.2.2, ⟨hk.1.1.2, ⟨hk.1.2, ⟨hk.2, hk.1.1.1.1⟩⟩⟩⟩⟩⟩)), (by (with_reducible repeat (first | apply rA | apply rB | apply rC)); exact rE HO_119001.out (fun _ hk => ⟨hk.1.1.1.2.1, ⟨hk.1.1.1.2.2.1, ⟨hk.1.1.1.2.2.2, ⟨hk.1.1.2, ⟨hk.1.2, ⟨hk.2, hk.1.1.1.1⟩⟩⟩⟩⟩⟩)), (by with_reducible apply_rules [HO_7.out, rA, rB, rC]), (by with_reducible apply_rules [B12.out, bA, bB, bC]), (by with_reducible apply_rules [B13.out, bA, bB, bC]), (by with_reducible apply_rules [B17.out, bA, bB, bC]), (by with_reducible apply_rules [B18.out, bA, bB, bC]), (by with_reducible apply_rules [B55.out, bA, bB, bC]), (by with_reducible apply_rules [B69.out, bA, bB, bC]), GW169.out, GE169.out, NB112_169.out, NB169_112.out, NB113_169.out, NB169_113.out, NB117_169.out, NB169_117.out, NB118_169.out, NB169_118.out, NB155_169.out, NB169_155.out, (by (with_reducible apply_rules [HB.out, pA, pD, pE, sT, GE112.out, GE113.out, GE117.out, GE118.out, GE155.out, GE169.out]))⟩)
                ·skip
                 refine box_step ?hg (N := 17) ?hd (cs := #[.int .i64 0, .slice none 0 0]) (t := 25) ?hr ?_; (case hd => rfl); (case hg => rfl); (case hr => first | (go_simp; done) | (go_simp; rfl))
                 intro gb169 hg w136 hbox hb
                 replace HO_7 := aM (rD (by with_reducible apply_rules [HO_7.out, rA, rB, rC]) hb)
                 replace HO_118001 := aM (rD (by with_reducible apply_rules [HO_118001.out, rA, rB, rC]) hb)
                 replace HO_119001 := aM (rD (by with_reducible apply_rules [HO_119001.out, rA, rB, rC]) hb)
                 replace HO135 := aM (rD (by with_reducible apply_rules [HO135.out, rA, rB, rC]) hb)
                 replace HO141 := aM (rD (by with_reducible apply_rules [HO141.out, rA, rB, rC]) hb)
                 replace HO144 := aM (rD (by with_reducible apply_rules [HO144.out, rA, rB, rC]) hb)
                 replace HO149 := aM (rD (by with_reducible apply_rules [HO149.out, rA, rB, rC]) hb)
                 replace HO153 := aM (rD (by with_reducible apply_rules [HO153.out, rA, rB, rC]) hb)
                 replace HO159 := aM (rD (by with_reducible apply_rules [HO159.out, rA, rB, rC]) hb)
                 replace HO163 := aM (rD (by with_reducible apply_rules [HO163.out, rA, rB, rC]) hb)
                 have B69 := aM (hbox)
                 have GW169 := aM ((by rw [hg]; exact (below_size (by (with_reducible apply_rules [HB.out, pA, pD, pE, sT, GE112.out, GE113.out, GE117.out, GE118.out, GE155.out]))) : w.heap.size ≤ gb169))
                 have GE169 := aM ((by rw [hg]; exact (below_size (by (with_reducible apply_rules [HB.out, pA, pD, pE, sT, GE112.out, GE113.out, GE117.out, GE118.out, GE155.out]))) : w.heap.size ≤ gb169))
                 replace HB := aM (pS_ (by (with_reducible apply_rules [HB.out, pA, pD, pE, sT, GE112.out, GE113.out, GE117.out, GE118.out, GE155.out])) hb)
                 have NB112_169 := aM ((by rw [hg]; exact Nat.ne_of_lt (blk_lt (g := gb112) (o := .cells #[.int .i64 a0_0, .slice A0_1 l0_1.length c0_1] 25 (0, 0)) (by with_reducible apply_rules [B12.out, bA, bB, bC])) : gb112 ≠ gb169))
                 have NB169_112 := aM ((by rw [hg]; exact Nat.ne_of_gt (blk_lt (g := gb112) (o := .cells #[.int .i64 a0_0, .slice A0_1 l0_1.length c0_1] 25 (0, 0)) (by with_reducible apply_rules [B12.out, bA, bB, bC])) : gb169 ≠ gb112))
                 replace B12 := aM (bD (g := gb112) (o := .cells #[.int .i64 a0_0, .slice A0_1 l0_1.length c0_1] 25 (0, 0)) (by with_reducible apply_rules [B12.out, bA, bB, bC]) hb)
                 have NB113_169 := aM ((by rw [hg]; exact Nat.ne_of_lt (blk_lt (g := gb113) (o := .cells #[.int .i64 a1_0, .slice A1_1 l1_1.length c1_1] 25 (0, 0)) (by with_reducible apply_rules [B13.out, bA, bB, bC])) : gb113 ≠ gb169))
                 have NB169_113 := aM ((by rw [hg]; exact Nat.ne_of_gt (blk_lt (g := gb113) (o := .cells #[.int .i64 a1_0, .slice A1_1 l1_1.length c1_1] 25 (0, 0)) (by with_reducible apply_rules [B13.out, bA, bB, bC])) : gb169 ≠ gb113))
                 replace B13 := aM (bD (g := gb113) (o := .cells #[.int .i64 a1_0, .slice A1_1 l1_1.length c1_1] 25 (0, 0)) (by with_reducible apply_rules [B13.out, bA, bB, bC]) hb)
                 have NB117_169 := aM ((by rw [hg]; exact Nat.ne_of_lt (blk_lt (g := gb117) (o := .cells #[.int .i64 x118000_27, u118001] 25 (0, 0)) (by with_reducible apply_rules [B17.out, bA, bB, bC])) : gb117 ≠ gb169))
                 have NB169_117 := aM ((by rw [hg]; exact Nat.ne_of_gt (blk_lt (g := gb117) (o := .cells #[.int .i64 x118000_27, u118001] 25 (0, 0)) (by with_reducible apply_rules [B17.out, bA, bB, bC])) : gb169 ≠ gb117))
                 replace B17 := aM (bD (g := gb117) (o := .cells #[.int .i64 x118000_27, u118001] 25 (0, 0)) (by with_reducible apply_rules [B17.out, bA, bB, bC]) hb)
                 have NB118_169 := aM ((by rw [hg]; exact Nat.ne_of_lt (blk_lt (g := gb118) (o := .cells #[.int .i64 x119000_27, u119001] 25 (0, 0)) (by with_reducible apply_rules [B18.out, bA, bB, bC])) : gb118 ≠ gb169))
                 have NB169_118 := aM ((by rw [hg]; exact Nat.ne_of_gt (blk_lt (g := gb118) (o := .cells #[.int .i64 x119000_27, u119001] 25 (0, 0)) (by with_reducible apply_rules [B18.out, bA, bB, bC])) : gb169 ≠ gb118))
                 replace B18 := aM (bD (g := gb118) (o := .cells #[.int .i64 x119000_27, u119001] 25 (0, 0)) (by with_reducible apply_rules [B18.out, bA, bB, bC]) hb)
                 have NB155_169 := aM ((by rw [hg]; exact Nat.ne_of_lt (blk_lt (g := gb155) (o := .cells #[.int .i64 t150, .slice Ao131 t151.length co131] 25 (0, 0)) (by with_reducible apply_rules [B55.out, bA, bB, bC])) : gb155 ≠ gb169))
                 have NB169_155 := aM ((by rw [hg]; exact Nat.ne_of_gt (blk_lt (g := gb155) (o := .cells #[.int .i64 t150, .slice Ao131 t151.length co131] 25 (0, 0)) (by with_reducible apply_rules [B55.out, bA, bB, bC])) : gb169 ≠ gb155))
                 replace B55 := aM (bD (g := gb155) (o := .cells #[.int .i64 t150, .slice Ao131 t151.length co131] 25 (0, 0)) (by with_reducible apply_rules [B55.out, bA, bB, bC]) hb)
                 clear hb hbox hg
                 obtain ⟨Ao137, co137, eo137⟩ := Kd.R_slice HO159.out
                 (first | subst eo137 | (injection eo137 with f1_ f2_ f3_; have f4_ := f1_.symm; have f5_ := f3_.symm; clear f1_ f2_ f3_; subst f4_; subst f5_))
                 obtain ⟨Ao138, co138, eo138⟩ := Kd.R_slice HO163.out
                 (first | subst eo138 | (injection eo138 with f1_ f2_ f3_; have f4_ := f1_.symm; have f5_ := f3_.symm; clear f1_ f2_ f3_; subst f4_; subst f5_))
                 refine hK.out _ _ ⟨(bE B12.out 0).trans rfl, (bE B12.out 1).trans rfl, (bE B13.out 0).trans rfl, (bE B13.out 1).trans rfl⟩ (fun hHeld => ?_)
                 clear hK K
                 refine norm_ (a' := ?_) ?_ ?_
                 rotate_left
                 ·show Act.put _ (some 17) _ = _
                  simp only [Act.put, pSu2, i64_w]
                  rfl
                 refine one_ (i := 4) (N := some 75) z13u2 rfl rfl (one_of HT_.out (by kernel_rfl)) (by decide) (fun K hK => ?_)
                 refine goes_ Tryd.func38 (by kernel_rfl) rfl #[.agg #[.int .i64 t156, .slice Ao137 t157.length co137], .agg #[.int .i64 t160, .slice Ao138 t161.length co138]] (by rfl) rfl rfl (by (try simp only [List.map_toArray, List.map_cons, List.map_nil]); first | done | rfl | (simp only [List.length_drop, List.length_take]; rfl)) ?_
                 with_reducible refine (undo_Join.calls kj27 t156 (fun k_ => some k_ = (.slice Ao137 t157.length co137 : Value).ownBlock) _ _ t157 t160 (fun k_ => some k_ = (.slice Ao138 t161.length co138 : Value).ownBlock) _ _ t161 t164 t165 t168 _ ?side1 ?side2 A99.out).mono ?_
                 (case side1 => exact Kd.R_V (Kd.R_tight rfl (Kd.R_types (Kd.R_types (Kd.R_types (Kd.R_types (Kd.R_types (Kd.R_types (Kd.R_apart' (Kd.R_apart' (Kd.R_apart' (HO159.out) (Kd.R_typed HO_7.out) (by decide)) (Kd.R_typed HO141.out) (by decide)) (Kd.R_typed HO144.out) (by decide)) B12.out (by decide)) B13.out (by decide)) B17.out (by decide)) B18.out (by decide)) B55.out (by decide)) B69.out (by decide))))
                 (case side2 => exact Kd.R_V (Kd.R_tight rfl (Kd.R_types (Kd.R_types (Kd.R_types (Kd.R_types (Kd.R_types (Kd.R_types (Kd.R_apart' (Kd.R_apart' (Kd.R_apart' (HO163.out) (Kd.R_typed HO_7.out) (by decide)) (Kd.R_typed HO141.out) (by decide)) (Kd.R_typed HO144.out) (by decide)) B12.out (by decide)) B13.out (by decide)) B17.out (by decide)) B18.out (by decide)) B55.out (by decide)) B69.out (by decide))))
                 rintro e w139 ⟨v166, rfl, ho0, hb⟩
                 refine ⟨_, rfl, ?_⟩
                 replace HO_7 := aM (rD (by with_reducible apply_rules [HO_7.out, rA, rB, rC]) hb)
                 replace HO141 := aM (rD (by with_reducible apply_rules [HO141.out, rA, rB, rC]) hb)
                 replace HO144 := aM (rD (by with_reducible apply_rules [HO144.out, rA, rB, rC]) hb)
                 have HO167 := aM (Kd.R_lower (Kd.R_new' (Kd.R_new' (Kd.R_new' (Kd.R_new' (Kd.R_new' (Kd.R_new' (Kd.R_new' (rE (ok' := fun k_ => True) ho0 (fun _ hk_ => trivial)) (Kd.R_lt (by with_reducible apply_rules [HO_118001.out, rA, rB, rC]))) (Kd.R_lt (by with_reducible apply_rules [HO_119001.out, rA, rB, rC]))) (Kd.R_lt (by with_reducible apply_rules [HO135.out, rA, rB, rC]))) (Kd.R_lt (by with_reducible apply_rules [HO149.out, rA, rB, rC]))) (Kd.R_lt (by with_reducible apply_rules [HO153.out, rA, rB, rC]))) (Kd.R_lt (by with_reducible apply_rules [HO159.out, rA, rB, rC]))) (Kd.R_lt (by with_reducible apply_rules [HO163.out, rA, rB, rC]))) (below_size (by (with_reducible apply_rules [HB.out, pA, pD, pE, sT, GE112.out, GE113.out, GE117.out, GE118.out, GE155.out, GE169.out]))))
                 replace HO_118001 := aM (Kd.R_elder' (by with_reducible apply_rules [HO_118001.out, rA, rB, rC]) (Kd.R_base ho0) hb)
                 replace HO_119001 := aM (Kd.R_elder' (by with_reducible apply_rules [HO_119001.out, rA, rB, rC]) (Kd.R_base ho0) hb)
                 replace HO135 := aM (Kd.R_elder' (by with_reducible apply_rules [HO135.out, rA, rB, rC]) (Kd.R_base ho0) hb)
                 replace HO149 := aM (Kd.R_elder' (by with_reducible apply_rules [HO149.out, rA, rB, rC]) (Kd.R_base ho0) hb)
                 replace HO153 := aM (Kd.R_elder' (by with_reducible apply_rules [HO153.out, rA, rB, rC]) (Kd.R_base ho0) hb)
                 replace HO159 := aM (Kd.R_elder' (by with_reducible apply_rules [HO159.out, rA, rB, rC]) (Kd.R_base ho0) hb)
                 replace HO163 := aM (Kd.R_elder' (by with_reducible apply_rules [HO163.out, rA, rB, rC]) (Kd.R_base ho0) hb)
                 replace B12 := aM (bD (g := gb112) (o := .cells #[.int .i64 a0_0, .slice A0_1 l0_1.length c0_1] 25 (0, 0)) (by with_reducible apply_rules [B12.out, bA, bB, bC]) hb)
                 replace B13 := aM (bD (g := gb113) (o := .cells #[.int .i64 a1_0, .slice A1_1 l1_1.length c1_1] 25 (0, 0)) (by with_reducible apply_rules [B13.out, bA, bB, bC]) hb)
                 replace B17 := aM (bD (g := gb117) (o := .cells #[.int .i64 x118000_27, u118001] 25 (0, 0)) (by with_reducible apply_rules [B17.out, bA, bB, bC]) hb)
                 replace B18 := aM (bD (g := gb118) (o := .cells #[.int .i64 x119000_27, u119001] 25 (0, 0)) (by with_reducible apply_rules [B18.out, bA, bB, bC]) hb)
                 replace B55 := aM (bD (g := gb155) (o := .cells #[.int .i64 t150, .slice Ao131 t151.length co131] 25 (0, 0)) (by with_reducible apply_rules [B55.out, bA, bB, bC]) hb)
                 replace B69 := aM (bD (g := gb169) (o := .cells #[.int .i64 0, .slice none 0 0] 25 (0, 0)) (by with_reducible apply_rules [B69.out, bA, bB, bC]) hb)
                 replace HB := aM (pS_ (by (with_reducible apply_rules [HB.out, pA, pD, pE, sT, GE112.out, GE113.out, GE117.out, GE118.out, GE155.out, GE169.out])) hb)
                 (try clear hb)
                 (try clear hb2)
                 (try clear hk)
                 (try clear hi)
                 (try clear ho0)
                 refine hK.out _ _ ⟨(bE B12.out 0).trans rfl, (bE B12.out 1).trans rfl, (bE B13.out 0).trans rfl, (bE B13.out 1).trans rfl⟩ (fun hHeld => ?_)
                 clear hK K
                 refine norm_ (a' := ?_) ?_ ?_
                 rotate_left
                 ·show Act.put _ (some 75) _ = _
                  simp only [Act.put, pSu2, i64_w]
                  rfl
                 refine pure_ (i := 5) (N := some 70) (v := ?_) (a' := ?_) z14u2 rfl rfl (any_of HT_.out (by kernel_rfl)) (fun _ _ _ h => h) (Or.inl ⟨by rfl, ?_⟩) ?_ ?_; rotate_left; (intro w'; go_simp; with_reducible rfl); rotate_left; (simp only [Act.put, pSu2, i64_w]; rfl)
                 refine pure_ (i := 6) (N := some 76) (v := ?_) (a' := ?_) z15u2 rfl rfl (any_of HT_.out (by kernel_rfl)) (fun _ _ _ h => h) (Or.inl ⟨by rfl, ?_⟩) ?_ ?_; rotate_left; (intro w'; go_simp; with_reducible rfl); rotate_left; (simp only [Act.put, pSu2, i64_w]; rfl)
                 refine pure_ (i := 7) (N := some 77) (v := ?_) (a' := ?_) z3u2 rfl rfl (any_of HT_.out (by kernel_rfl)) (fun _ _ _ h => h) (Or.inl ⟨by rfl, ?_⟩) ?_ ?_; rotate_left; (intro w'; go_simp; with_reducible rfl); rotate_left; (simp only [Act.put, pSu2, i64_w]; rfl)
                 exact norm_ (by simp only [putAll, Act.put, pSu2]) (hCont (.slice Ao137 t157.length co137, .slice Ao138 t161.length co138, v166, gb169) _ ⟨hHeld, (by (with_reducible repeat (first | apply rA | apply rB | apply rC)); exact rE HO135.out (fun _ hk => ⟨hk.1.1.1.2.2.1, ⟨hk.1.1.1.2.2.2, ⟨hk.1.1.2, ⟨hk.1.2, ⟨hk.2, ⟨hk.1.1.1.1, hk.1.1.1.2.1⟩⟩⟩⟩⟩⟩)), (by (with_reducible repeat (first | apply rA | apply rB | apply rC)); exact rE HO141.out (fun _ hk => ⟨hk.2, hk.1⟩)), (by (with_reducible repeat (first | apply rA | apply rB | apply rC)); exact rE HO144.out (fun _ hk => ⟨hk.2, hk.1⟩)), (by (with_reducible repeat (first | apply rA | apply rB | apply rC)); exact rE HO149.out (fun _ hk => ⟨hk.1.1.1.2.2.1, ⟨hk.1.1.1.2.2.2, ⟨hk.1.1.2, ⟨hk.1.2, ⟨hk.2, ⟨hk.1.1.1.1, hk.1.1.1.2.1⟩⟩⟩⟩⟩⟩)), (by (with_reducible repeat (first | apply rA | apply rB | apply rC)); exact rE HO153.out (fun _ hk => ⟨hk.1.1.1.2.2.1, ⟨hk.1.1.1.2.2.2, ⟨hk.1.1.2, ⟨hk.1.2, ⟨hk.2, ⟨hk.1.1.1.1, hk.1.1.1.2.1⟩⟩⟩⟩⟩⟩)), (by (with_reducible repeat (first | apply rA | apply rB | apply rC)); exact rE HO159.out (fun _ hk => ⟨hk.1.1.1.1.2, ⟨hk.1.1.1.2, ⟨hk.1.1.2, ⟨hk.1.2, ⟨hk.2, ⟨hk.1.1.1.1.1.1.2, hk.1.1.1.1.1.2⟩⟩⟩⟩⟩⟩)), (by (with_reducible repeat (first | apply rA | apply rB | apply rC)); exact rE HO163.out (fun _ hk => ⟨hk.1.1.1.1.2, ⟨hk.1.1.1.2, ⟨hk.1.1.2, ⟨hk.1.2, ⟨hk.2, ⟨hk.1.1.1.1.1.1.2, hk.1.1.1.1.1.2⟩⟩⟩⟩⟩⟩)), (by (with_reducible repeat (first | apply rA | apply rB | apply rC)); exact rE HO167.out (fun _ hk => ⟨hk.1.1.1.1.2, ⟨hk.1.1.1.2, ⟨hk.1.1.2, ⟨hk.1.2, ⟨hk.2, ⟨hk.1.1.1.1.1.1.2, hk.1.1.1.1.1.2⟩⟩⟩⟩⟩⟩)), (by (with_reducible repeat (first | apply rA | apply rB | apply rC)); exact rE HO_118001.out (fun _ hk => ⟨hk.1.1.1.2.1, ⟨hk.1.1.1.2.2.1, ⟨hk.1.1.1.2.2.2, ⟨hk.1.1.2, ⟨hk.1.2, ⟨hk.2, hk.1.1.1.1⟩⟩⟩⟩⟩⟩)), (by (with_reducible repeat (first | apply rA | apply rB | apply rC)); exact rE HO_119001.out (fun _ hk => ⟨hk.1.1.1.2.1, ⟨hk.1.1.1.2.2.1, ⟨hk.1.1.1.2.2.2, ⟨hk.1.1.2, ⟨hk.1.2, ⟨hk.2, hk.1.1.1.1⟩⟩⟩⟩⟩⟩)), (by with_reducible apply_rules [HO_7.out, rA, rB, rC]), (by with_reducible apply_rules [B12.out, bA, bB, bC]), (by with_reducible apply_rules [B13.out, bA, bB, bC]), (by with_reducible apply_rules [B17.out, bA, bB, bC]), (by with_reducible apply_rules [B18.out, bA, bB, bC]), (by with_reducible apply_rules [B55.out, bA, bB, bC]), (by with_reducible apply_rules [B69.out, bA, bB, bC]), GW169.out, GE169.out, NB112_169.out, NB169_112.out, NB113_169.out, NB169_113.out, NB117_169.out, NB169_117.out, NB118_169.out, NB169_118.out, NB155_169.out, NB169_155.out, (by (with_reducible apply_rules [HB.out, pA, pD, pE, sT, GE112.out, GE113.out, GE117.out, GE118.out, GE155.out, GE169.out]))⟩)
               ·skip
                refine box_step ?hg (N := 17) ?hd (cs := #[.int .i64 0, .slice none 0 0]) (t := 25) ?hr ?_; (case hd => rfl); (case hg => rfl); (case hr => first | (go_simp; done) | (go_simp; rfl))
                intro gb169 hg w135 hbox hb
                replace HO_7 := aM (rD (by with_reducible apply_rules [HO_7.out, rA, rB, rC]) hb)
                replace HO_118001 := aM (rD (by with_reducible apply_rules [HO_118001.out, rA, rB, rC]) hb)
                replace HO_119001 := aM (rD (by with_reducible apply_rules [HO_119001.out, rA, rB, rC]) hb)
                replace HO135 := aM (rD (by with_reducible apply_rules [HO135.out, rA, rB, rC]) hb)
                replace HO141 := aM (rD (by with_reducible apply_rules [HO141.out, rA, rB, rC]) hb)
                replace HO144 := aM (rD (by with_reducible apply_rules [HO144.out, rA, rB, rC]) hb)
                replace HO149 := aM (rD (by with_reducible apply_rules [HO149.out, rA, rB, rC]) hb)
                replace HO153 := aM (rD (by with_reducible apply_rules [HO153.out, rA, rB, rC]) hb)
                replace HO159 := aM (rD (by with_reducible apply_rules [HO159.out, rA, rB, rC]) hb)
                have B69 := aM (hbox)
                have GW169 := aM ((by rw [hg]; exact (below_size (by (with_reducible apply_rules [HB.out, pA, pD, pE, sT, GE112.out, GE113.out, GE117.out, GE118.out, GE155.out]))) : w.heap.size ≤ gb169))
                have GE169 := aM ((by rw [hg]; exact (below_size (by (with_reducible apply_rules [HB.out, pA, pD, pE, sT, GE112.out, GE113.out, GE117.out, GE118.out, GE155.out]))) : w.heap.size ≤ gb169))
                replace HB := aM (pS_ (by (with_reducible apply_rules [HB.out, pA, pD, pE, sT, GE112.out, GE113.out, GE117.out, GE118.out, GE155.out])) hb)
                have NB112_169 := aM ((by rw [hg]; exact Nat.ne_of_lt (blk_lt (g := gb112) (o := .cells #[.int .i64 a0_0, .slice A0_1 l0_1.length c0_1] 25 (0, 0)) (by with_reducible apply_rules [B12.out, bA, bB, bC])) : gb112 ≠ gb169))
                have NB169_112 := aM ((by rw [hg]; exact Nat.ne_of_gt (blk_lt (g := gb112) (o := .cells #[.int .i64 a0_0, .slice A0_1 l0_1.length c0_1] 25 (0, 0)) (by with_reducible apply_rules [B12.out, bA, bB, bC])) : gb169 ≠ gb112))
                replace B12 := aM (bD (g := gb112) (o := .cells #[.int .i64 a0_0, .slice A0_1 l0_1.length c0_1] 25 (0, 0)) (by with_reducible apply_rules [B12.out, bA, bB, bC]) hb)
                have NB113_169 := aM ((by rw [hg]; exact Nat.ne_of_lt (blk_lt (g := gb113) (o := .cells #[.int .i64 a1_0, .slice A1_1 l1_1.length c1_1] 25 (0, 0)) (by with_reducible apply_rules [B13.out, bA, bB, bC])) : gb113 ≠ gb169))
                have NB169_113 := aM ((by rw [hg]; exact Nat.ne_of_gt (blk_lt (g := gb113) (o := .cells #[.int .i64 a1_0, .slice A1_1 l1_1.length c1_1] 25 (0, 0)) (by with_reducible apply_rules [B13.out, bA, bB, bC])) : gb169 ≠ gb113))
                replace B13 := aM (bD (g := gb113) (o := .cells #[.int .i64 a1_0, .slice A1_1 l1_1.length c1_1] 25 (0, 0)) (by with_reducible apply_rules [B13.out, bA, bB, bC]) hb)
                have NB117_169 := aM ((by rw [hg]; exact Nat.ne_of_lt (blk_lt (g := gb117) (o := .cells #[.int .i64 x118000_27, u118001] 25 (0, 0)) (by with_reducible apply_rules [B17.out, bA, bB, bC])) : gb117 ≠ gb169))
                have NB169_117 := aM ((by rw [hg]; exact Nat.ne_of_gt (blk_lt (g := gb117) (o := .cells #[.int .i64 x118000_27, u118001] 25 (0, 0)) (by with_reducible apply_rules [B17.out, bA, bB, bC])) : gb169 ≠ gb117))
                replace B17 := aM (bD (g := gb117) (o := .cells #[.int .i64 x118000_27, u118001] 25 (0, 0)) (by with_reducible apply_rules [B17.out, bA, bB, bC]) hb)
                have NB118_169 := aM ((by rw [hg]; exact Nat.ne_of_lt (blk_lt (g := gb118) (o := .cells #[.int .i64 x119000_27, u119001] 25 (0, 0)) (by with_reducible apply_rules [B18.out, bA, bB, bC])) : gb118 ≠ gb169))
                have NB169_118 := aM ((by rw [hg]; exact Nat.ne_of_gt (blk_lt (g := gb118) (o := .cells #[.int .i64 x119000_27, u119001] 25 (0, 0)) (by with_reducible apply_rules [B18.out, bA, bB, bC])) : gb169 ≠ gb118))
                replace B18 := aM (bD (g := gb118) (o := .cells #[.int .i64 x119000_27, u119001] 25 (0, 0)) (by with_reducible apply_rules [B18.out, bA, bB, bC]) hb)
                have NB155_169 := aM ((by rw [hg]; exact Nat.ne_of_lt (blk_lt (g := gb155) (o := .cells #[.int .i64 t150, .slice Ao131 t151.length co131] 25 (0, 0)) (by with_reducible apply_rules [B55.out, bA, bB, bC])) : gb155 ≠ gb169))
                have NB169_155 := aM ((by rw [hg]; exact Nat.ne_of_gt (blk_lt (g := gb155) (o := .cells #[.int .i64 t150, .slice Ao131 t151.length co131] 25 (0, 0)) (by with_reducible apply_rules [B55.out, bA, bB, bC])) : gb169 ≠ gb155))
                replace B55 := aM (bD (g := gb155) (o := .cells #[.int .i64 t150, .slice Ao131 t151.length co131] 25 (0, 0)) (by with_reducible apply_rules [B55.out, bA, bB, bC]) hb)
                clear hb hbox hg
                refine hK.out _ _ ⟨(bE B12.out 0).trans rfl, (bE B12.out 1).trans rfl, (bE B13.out 0).trans rfl, (bE B13.out 1).trans rfl⟩ (fun hHeld => ?_)
                clear hK K
                refine norm_ (a' := ?_) ?_ ?_
                rotate_left
                ·show Act.put _ (some 17) _ = _
                 simp only [Act.put, pSu2, i64_w]
                 rfl
                refine one_ (i := 3) (N := some 74) z9u2 rfl rfl (one_of HT_.out (by kernel_rfl)) (by decide) (fun K hK => ?_)
                refine goes_ Tryd.func24 (by kernel_rfl) rfl #[.agg #[.int .i64 a1_0, .slice A1_1 l1_1.length c1_1]] (by rfl) rfl rfl (by (try simp only [List.map_toArray, List.map_cons, List.map_nil]); first | done | rfl | (simp only [List.length_drop, List.length_take]; rfl)) ?_
                with_reducible refine (commodatumlaw12_Copy.calls a1_0 _ _ l1_1 t160 t161 _ ?side1 ?side2 A98.out).mono ?_
                (case side1 => with_reducible apply_rules [(cD HR1_1.out HB.out), cA, cB, cC])
                (case side2 => exact HC1_1.out)
                rintro e w136 ⟨v162, rfl, ho0, hb⟩
                refine ⟨_, rfl, ?_⟩
                replace HO_7 := aM (rD (by with_reducible apply_rules [HO_7.out, rA, rB, rC]) hb)
                replace HO141 := aM (rD (by with_reducible apply_rules [HO141.out, rA, rB, rC]) hb)
                replace HO144 := aM (rD (by with_reducible apply_rules [HO144.out, rA, rB, rC]) hb)
                have HO163 := aM (Kd.R_lower (Kd.R_new' (Kd.R_new' (Kd.R_new' (Kd.R_new' (Kd.R_new' (Kd.R_new' ho0 (Kd.R_lt (by with_reducible apply_rules [HO_118001.out, rA, rB, rC]))) (Kd.R_lt (by with_reducible apply_rules [HO_119001.out, rA, rB, rC]))) (Kd.R_lt (by with_reducible apply_rules [HO135.out, rA, rB, rC]))) (Kd.R_lt (by with_reducible apply_rules [HO149.out, rA, rB, rC]))) (Kd.R_lt (by with_reducible apply_rules [HO153.out, rA, rB, rC]))) (Kd.R_lt (by with_reducible apply_rules [HO159.out, rA, rB, rC]))) (below_size (by (with_reducible apply_rules [HB.out, pA, pD, pE, sT, GE112.out, GE113.out, GE117.out, GE118.out, GE155.out, GE169.out]))))
                replace HO_118001 := aM (Kd.R_elder' (by with_reducible apply_rules [HO_118001.out, rA, rB, rC]) (Kd.R_base ho0) hb)
                replace HO_119001 := aM (Kd.R_elder' (by with_reducible apply_rules [HO_119001.out, rA, rB, rC]) (Kd.R_base ho0) hb)
                replace HO135 := aM (Kd.R_elder' (by with_reducible apply_rules [HO135.out, rA, rB, rC]) (Kd.R_base ho0) hb)
                replace HO149 := aM (Kd.R_elder' (by with_reducible apply_rules [HO149.out, rA, rB, rC]) (Kd.R_base ho0) hb)
                replace HO153 := aM (Kd.R_elder' (by with_reducible apply_rules [HO153.out, rA, rB, rC]) (Kd.R_base ho0) hb)
                replace HO159 := aM (Kd.R_elder' (by with_reducible apply_rules [HO159.out, rA, rB, rC]) (Kd.R_base ho0) hb)
                replace B12 := aM (bD (g := gb112) (o := .cells #[.int .i64 a0_0, .slice A0_1 l0_1.length c0_1] 25 (0, 0)) (by with_reducible apply_rules [B12.out, bA, bB, bC]) hb)
                replace B13 := aM (bD (g := gb113) (o := .cells #[.int .i64 a1_0, .slice A1_1 l1_1.length c1_1] 25 (0, 0)) (by with_reducible apply_rules [B13.out, bA, bB, bC]) hb)
                replace B17 := aM (bD (g := gb117) (o := .cells #[.int .i64 x118000_27, u118001] 25 (0, 0)) (by with_reducible apply_rules [B17.out, bA, bB, bC]) hb)
                replace B18 := aM (bD (g := gb118) (o := .cells #[.int .i64 x119000_27, u119001] 25 (0, 0)) (by with_reducible apply_rules [B18.out, bA, bB, bC]) hb)
                replace B55 := aM (bD (g := gb155) (o := .cells #[.int .i64 t150, .slice Ao131 t151.length co131] 25 (0, 0)) (by with_reducible apply_rules [B55.out, bA, bB, bC]) hb)
                replace B69 := aM (bD (g := gb169) (o := .cells #[.int .i64 0, .slice none 0 0] 25 (0, 0)) (by with_reducible apply_rules [B69.out, bA, bB, bC]) hb)
                replace HB := aM (pS_ (by (with_reducible apply_rules [HB.out, pA, pD, pE, sT, GE112.out, GE113.out, GE117.out, GE118.out, GE155.out, GE169.out])) hb)
                (try clear hb)
                (try clear hb2)
                (try clear hk)
                (try clear hi)
                (try clear ho0)
                obtain ⟨Ao137, co137, eo137⟩ := Kd.R_slice HO159.out
                (first | subst eo137 | (injection eo137 with f1_ f2_ f3_; have f4_ := f1_.symm; have f5_ := f3_.symm; clear f1_ f2_ f3_; subst f4_; subst f5_))
                obtain ⟨Ao138, co138, eo138⟩ := Kd.R_slice HO163.out
                (first | subst eo138 | (injection eo138 with f1_ f2_ f3_; have f4_ := f1_.symm; have f5_ := f3_.symm; clear f1_ f2_ f3_; subst f4_; subst f5_))
                refine hK.out _ _ ⟨(bE B12.out 0).trans rfl, (bE B12.out 1).trans rfl, (bE B13.out 0).trans rfl, (bE B13.out 1).trans rfl⟩ (fun hHeld => ?_)
                clear hK K
                refine norm_ (a' := ?_) ?_ ?_
                rotate_left
                ·show Act.put _ (some 74) _ = _
                 simp only [Act.put, pSu2, i64_w]
                 rfl
                refine one_ (i := 4) (N := some 75) z13u2 rfl rfl (one_of HT_.out (by kernel_rfl)) (by decide) (fun K hK => ?_)
                refine goes_ Tryd.func38 (by kernel_rfl) rfl #[.agg #[.int .i64 t156, .slice Ao137 t157.length co137], .agg #[.int .i64 t160, .slice Ao138 t161.length co138]] (by rfl) rfl rfl (by (try simp only [List.map_toArray, List.map_cons, List.map_nil]); first | done | rfl | (simp only [List.length_drop, List.length_take]; rfl)) ?_
                with_reducible refine (undo_Join.calls kj27 t156 (fun k_ => some k_ = (.slice Ao137 t157.length co137 : Value).ownBlock) _ _ t157 t160 (fun k_ => some k_ = (.slice Ao138 t161.length co138 : Value).ownBlock) _ _ t161 t164 t165 t168 _ ?side1 ?side2 A99.out).mono ?_
                (case side1 => exact Kd.R_V (Kd.R_tight rfl (Kd.R_types (Kd.R_types (Kd.R_types (Kd.R_types (Kd.R_types (Kd.R_types (Kd.R_apart' (Kd.R_apart' (Kd.R_apart' (HO159.out) (Kd.R_typed HO_7.out) (by decide)) (Kd.R_typed HO141.out) (by decide)) (Kd.R_typed HO144.out) (by decide)) B12.out (by decide)) B13.out (by decide)) B17.out (by decide)) B18.out (by decide)) B55.out (by decide)) B69.out (by decide))))
                (case side2 => exact Kd.R_V (Kd.R_tight rfl (Kd.R_types (Kd.R_types (Kd.R_types (Kd.R_types (Kd.R_types (Kd.R_types (Kd.R_apart' (Kd.R_apart' (Kd.R_apart' (HO163.out) (Kd.R_typed HO_7.out) (by decide)) (Kd.R_typed HO141.out) (by decide)) (Kd.R_typed HO144.out) (by decide)) B12.out (by decide)) B13.out (by decide)) B17.out (by decide)) B18.out (by decide)) B55.out (by decide)) B69.out (by decide))))
                rintro e w139 ⟨v166, rfl, ho0, hb⟩
                refine ⟨_, rfl, ?_⟩
                replace HO_7 := aM (rD (by with_reducible apply_rules [HO_7.out, rA, rB, rC]) hb)
                replace HO141 := aM (rD (by with_reducible apply_rules [HO141.out, rA, rB, rC]) hb)
                replace HO144 := aM (rD (by with_reducible apply_rules [HO144.out, rA, rB, rC]) hb)
                have HO167 := aM (Kd.R_lower (Kd.R_new' (Kd.R_new' (Kd.R_new' (Kd.R_new' (Kd.R_new' (Kd.R_new' (Kd.R_new' (rE (ok' := fun k_ => True) ho0 (fun _ hk_ => trivial)) (Kd.R_lt (by with_reducible apply_rules [HO_118001.out, rA, rB, rC]))) (Kd.R_lt (by with_reducible apply_rules [HO_119001.out, rA, rB, rC]))) (Kd.R_lt (by with_reducible apply_rules [HO135.out, rA, rB, rC]))) (Kd.R_lt (by with_reducible apply_rules [HO149.out, rA, rB, rC]))) (Kd.R_lt (by with_reducible apply_rules [HO153.out, rA, rB, rC]))) (Kd.R_lt (by with_reducible apply_rules [HO159.out, rA, rB, rC]))) (Kd.R_lt (by with_reducible apply_rules [HO163.out, rA, rB, rC]))) (below_size (by (with_reducible apply_rules [HB.out, pA, pD, pE, sT, GE112.out, GE113.out, GE117.out, GE118.out, GE155.out, GE169.out]))))
                replace HO_118001 := aM (Kd.R_elder' (by with_reducible apply_rules [HO_118001.out, rA, rB, rC]) (Kd.R_base ho0) hb)
                replace HO_119001 := aM (Kd.R_elder' (by with_reducible apply_rules [HO_119001.out, rA, rB, rC]) (Kd.R_base ho0) hb)
                replace HO135 := aM (Kd.R_elder' (by with_reducible apply_rules [HO135.out, rA, rB, rC]) (Kd.R_base ho0) hb)
                replace HO149 := aM (Kd.R_elder' (by with_reducible apply_rules [HO149.out, rA, rB, rC]) (Kd.R_base ho0) hb)
                replace HO153 := aM (Kd.R_elder' (by with_reducible apply_rules [HO153.out, rA, rB, rC]) (Kd.R_base ho0) hb)
                replace HO159 := aM (Kd.R_elder' (by with_reducible apply_rules [HO159.out, rA, rB, rC]) (Kd.R_base ho0) hb)
                replace HO163 := aM (Kd.R_elder' (by with_reducible apply_rules [HO163.out, rA, rB, rC]) (Kd.R_base ho0) hb)
                replace B12 := aM (bD (g := gb112) (o := .cells #[.int .i64 a0_0, .slice A0_1 l0_1.length c0_1] 25 (0, 0)) (by with_reducible apply_rules [B12.out, bA, bB, bC]) hb)
                replace B13 := aM (bD (g := gb113) (o := .cells #[.int .i64 a1_0, .slice A1_1 l1_1.length c1_1] 25 (0, 0)) (by with_reducible apply_rules [B13.out, bA, bB, bC]) hb)
                replace B17 := aM (bD (g := gb117) (o := .cells #[.int .i64 x118000_27, u118001] 25 (0, 0)) (by with_reducible apply_rules [B17.out, bA, bB, bC]) hb)
                replace B18 := aM (bD (g := gb118) (o := .cells #[.int .i64 x119000_27, u119001] 25 (0, 0)) (by with_reducible apply_rules [B18.out, bA, bB, bC]) hb)
                replace B55 := aM (bD (g := gb155) (o := .cells #[.int .i64 t150, .slice Ao131 t151.length co131] 25 (0, 0)) (by with_reducible apply_rules [B55.out, bA, bB, bC]) hb)
                replace B69 := aM (bD (g := gb169) (o := .cells #[.int .i64 0, .slice none 0 0] 25 (0, 0)) (by with_reducible apply_rules [B69.out, bA, bB, bC]) hb)
                replace HB := aM (pS_ (by (with_reducible apply_rules [HB.out, pA, pD, pE, sT, GE112.out, GE113.out, GE117.out, GE118.out, GE155.out, GE169.out])) hb)
                (try clear hb)
                (try clear hb2)
                (try clear hk)
                (try clear hi)
                (try clear ho0)
                refine hK.out _ _ ⟨(bE B12.out 0).trans rfl, (bE B12.out 1).trans rfl, (bE B13.out 0).trans rfl, (bE B13.out 1).trans rfl⟩ (fun hHeld => ?_)
                clear hK K
                refine norm_ (a' := ?_) ?_ ?_
                rotate_left
                ·show Act.put _ (some 75) _ = _
                 simp only [Act.put, pSu2, i64_w]
                 rfl
                refine pure_ (i := 5) (N := some 70) (v := ?_) (a' := ?_) z14u2 rfl rfl (any_of HT_.out (by kernel_rfl)) (fun _ _ _ h => h) (Or.inl ⟨by rfl, ?_⟩) ?_ ?_; rotate_left; (intro w'; go_simp; with_reducible rfl); rotate_left; (simp only [Act.put, pSu2, i64_w]; rfl)
                refine pure_ (i := 6) (N := some 76) (v := ?_) (a' := ?_) z15u2 rfl rfl (any_of HT_.out (by kernel_rfl)) (fun _ _ _ h => h) (Or.inl ⟨by rfl, ?_⟩) ?_ ?_; rotate_left; (intro w'; go_simp; with_reducible rfl); rotate_left; (simp only [Act.put, pSu2, i64_w]; rfl)
                refine pure_ (i := 7) (N := some 77) (v := ?_) (a' := ?_) z3u2 rfl rfl (any_of HT_.out (by kernel_rfl)) (fun _ _ _ h => h) (Or.inl ⟨by rfl, ?_⟩) ?_ ?_; rotate_left; (intro w'; go_simp; with_reducible rfl); rotate_left; (simp only [Act.put, pSu2, i64_w]; rfl)
                exact norm_ (by simp only [putAll, Act.put, pSu2]) (hCont (.slice Ao137 t157.length co137, .slice Ao138 t161.length co138, v166, gb169) _ ⟨hHeld, (by (with_reducible repeat (first | apply rA | apply rB | apply rC)); exact rE HO135.out (fun _ hk => ⟨hk.1.1.1.2.2.1, ⟨hk.1.1.1.2.2.2, ⟨hk.1.1.2, ⟨hk.1.2, ⟨hk.2, ⟨hk.1.1.1.1, hk.1.1.1.2.1⟩⟩⟩⟩⟩⟩)), (by (with_reducible repeat (first | apply rA | apply rB | apply rC)); exact rE HO141.out (fun _ hk => ⟨hk.2, hk.1⟩)), (by (with_reducible repeat (first | apply rA | apply rB | apply rC)); exact rE HO144.out (fun _ hk => ⟨hk.2, hk.1⟩)), (by (with_reducible repeat (first | apply rA | apply rB | apply rC)); exact rE HO149.out (fun _ hk => ⟨hk.1.1.1.2.2.1, ⟨hk.1.1.1.2.2.2, ⟨hk.1.1.2, ⟨hk.1.2, ⟨hk.2, ⟨hk.1.1.1.1, hk.1.1.1.2.1⟩⟩⟩⟩⟩⟩)), (by (with_reducible repeat (first | apply rA | apply rB | apply rC)); exact rE HO153.out (fun _ hk => ⟨hk.1.1.1.2.2.1, ⟨hk.1.1.1.2.2.2, ⟨hk.1.1.2, ⟨hk.1.2, ⟨hk.2, ⟨hk.1.1.1.1, hk.1.1.1.2.1⟩⟩⟩⟩⟩⟩)), (by (with_reducible repeat (first | apply rA | apply rB | apply rC)); exact rE HO159.out (fun _ hk => ⟨hk.1.1.1.1.2, ⟨hk.1.1.1.2, ⟨hk.1.1.2, ⟨hk.1.2, ⟨hk.2, ⟨hk.1.1.1.1.1.1.2, hk.1.1.1.1.1.2⟩⟩⟩⟩⟩⟩)), (by (with_reducible repeat (first | apply rA | apply rB | apply rC)); exact rE HO163.out (fun _ hk => ⟨hk.1.1.1.1.2, ⟨hk.1.1.1.2, ⟨hk.1.1.2, ⟨hk.1.2, ⟨hk.2, ⟨hk.1.1.1.1.1.1.2, hk.1.1.1.1.1.2⟩⟩⟩⟩⟩⟩)), (by (with_reducible repeat (first | apply rA | apply rB | apply rC)); exact rE HO167.out (fun _ hk => ⟨hk.1.1.1.1.2, ⟨hk.1.1.1.2, ⟨hk.1.1.2, ⟨hk.1.2, ⟨hk.2, ⟨hk.1.1.1.1.1.1.2, hk.1.1.1.1.1.2⟩⟩⟩⟩⟩⟩)), (by (with_reducible repeat (first | apply rA | apply rB | apply rC)); exact rE HO_118001.out (fun _ hk => ⟨hk.1.1.1.2.1, ⟨hk.1.1.1.2.2.1, ⟨hk.1.1.1.2.2.2, ⟨hk.1.1.2, ⟨hk.1.2, ⟨hk.2, hk.1.1.1.1⟩⟩⟩⟩⟩⟩)), (by (with_reducible repeat (first | apply rA | apply rB | apply rC)); exact rE HO_119001.out (fun _ hk => ⟨hk.1.1.1.2.1, ⟨hk.1.1.1.2.2.1, ⟨hk.1.1.1.2.2.2, ⟨hk.1.1.2, ⟨hk.1.2, ⟨hk.2, hk.1.1.1.1⟩⟩⟩⟩⟩⟩)), (by with_reducible apply_rules [HO_7.out, rA, rB, rC]), (by with_reducible apply_rules [B12.out, bA, bB, bC]), (by with_reducible apply_rules [B13.out, bA, bB, bC]), (by with_reducible apply_rules [B17.out, bA, bB, bC]), (by with_reducible apply_rules [B18.out, bA, bB, bC]), (by with_reducible apply_rules [B55.out, bA, bB, bC]), (by with_reducible apply_rules [B69.out, bA, bB, bC]), GW169.out, GE169.out, NB112_169.out, NB169_112.out, NB113_169.out, NB169_113.out, NB117_169.out, NB169_117.out, NB118_169.out, NB169_118.out, NB155_169.out, NB169_155.out, (by (with_reducible apply_rules [HB.out, pA, pD, pE, sT, GE112.out, GE113.out, GE117.out, GE118.out, GE155.out, GE169.out]))⟩)
              ·skip
               refine box_step ?hg (N := 17) ?hd (cs := #[.int .i64 0, .slice none 0 0]) (t := 25) ?hr ?_; (case hd => rfl); (case hg => rfl); (case hr => first | (go_simp; done) | (go_simp; rfl))
               intro gb169 hg w134 hbox hb
               replace HO_7 := aM (rD (by with_reducible apply_rules [HO_7.out, rA, rB, rC]) hb)
               replace HO_118001 := aM (rD (by with_reducible apply_rules [HO_118001.out, rA, rB, rC]) hb)
               replace HO_119001 := aM (rD (by with_reducible apply_rules [HO_119001.out, rA, rB, rC]) hb)
               replace HO135 := aM (rD (by with_reducible apply_rules [HO135.out, rA, rB, rC]) hb)
               replace HO141 := aM (rD (by with_reducible apply_rules [HO141.out, rA, rB, rC]) hb)
               replace HO144 := aM (rD (by with_reducible apply_rules [HO144.out, rA, rB, rC]) hb)
               replace HO149 := aM (rD (by with_reducible apply_rules [HO149.out, rA, rB, rC]) hb)
               replace HO153 := aM (rD (by with_reducible apply_rules [HO153.out, rA, rB, rC]) hb)
               have B69 := aM (hbox)
               have GW169 := aM ((by rw [hg]; exact (below_size (by (with_reducible apply_rules [HB.out, pA, pD, pE, sT, GE112.out, GE113.out, GE117.out, GE118.out, GE155.out]))) : w.heap.size ≤ gb169))
               have GE169 := aM ((by rw [hg]; exact (below_size (by (with_reducible apply_rules [HB.out, pA, pD, pE, sT, GE112.out, GE113.out, GE117.out, GE118.out, GE155.out]))) : w.heap.size ≤ gb169))
               replace HB := aM (pS_ (by (with_reducible apply_rules [HB.out, pA, pD, pE, sT, GE112.out, GE113.out, GE117.out, GE118.out, GE155.out])) hb)
               have NB112_169 := aM ((by rw [hg]; exact Nat.ne_of_lt (blk_lt (g := gb112) (o := .cells #[.int .i64 a0_0, .slice A0_1 l0_1.length c0_1] 25 (0, 0)) (by with_reducible apply_rules [B12.out, bA, bB, bC])) : gb112 ≠ gb169))
               have NB169_112 := aM ((by rw [hg]; exact Nat.ne_of_gt (blk_lt (g := gb112) (o := .cells #[.int .i64 a0_0, .slice A0_1 l0_1.length c0_1] 25 (0, 0)) (by with_reducible apply_rules [B12.out, bA, bB, bC])) : gb169 ≠ gb112))
               replace B12 := aM (bD (g := gb112) (o := .cells #[.int .i64 a0_0, .slice A0_1 l0_1.length c0_1] 25 (0, 0)) (by with_reducible apply_rules [B12.out, bA, bB, bC]) hb)
               have NB113_169 := aM ((by rw [hg]; exact Nat.ne_of_lt (blk_lt (g := gb113) (o := .cells #[.int .i64 a1_0, .slice A1_1 l1_1.length c1_1] 25 (0, 0)) (by with_reducible apply_rules [B13.out, bA, bB, bC])) : gb113 ≠ gb169))
               have NB169_113 := aM ((by rw [hg]; exact Nat.ne_of_gt (blk_lt (g := gb113) (o := .cells #[.int .i64 a1_0, .slice A1_1 l1_1.length c1_1] 25 (0, 0)) (by with_reducible apply_rules [B13.out, bA, bB, bC])) : gb169 ≠ gb113))
               replace B13 := aM (bD (g := gb113) (o := .cells #[.int .i64 a1_0, .slice A1_1 l1_1.length c1_1] 25 (0, 0)) (by with_reducible apply_rules [B13.out, bA, bB, bC]) hb)
               have NB117_169 := aM ((by rw [hg]; exact Nat.ne_of_lt (blk_lt (g := gb117) (o := .cells #[.int .i64 x118000_27, u118001] 25 (0, 0)) (by with_reducible apply_rules [B17.out, bA, bB, bC])) : gb117 ≠ gb169))
               have NB169_117 := aM ((by rw [hg]; exact Nat.ne_of_gt (blk_lt (g := gb117) (o := .cells #[.int .i64 x118000_27, u118001] 25 (0, 0)) (by with_reducible apply_rules [B17.out, bA, bB, bC])) : gb169 ≠ gb117))
               replace B17 := aM (bD (g := gb117) (o := .cells #[.int .i64 x118000_27, u118001] 25 (0, 0)) (by with_reducible apply_rules [B17.out, bA, bB, bC]) hb)
               have NB118_169 := aM ((by rw [hg]; exact Nat.ne_of_lt (blk_lt (g := gb118) (o := .cells #[.int .i64 x119000_27, u119001] 25 (0, 0)) (by with_reducible apply_rules [B18.out, bA, bB, bC])) : gb118 ≠ gb169))
               have NB169_118 := aM ((by rw [hg]; exact Nat.ne_of_gt (blk_lt (g := gb118) (o := .cells #[.int .i64 x119000_27, u119001] 25 (0, 0)) (by with_reducible apply_rules [B18.out, bA, bB, bC])) : gb169 ≠ gb118))
               replace B18 := aM (bD (g := gb118) (o := .cells #[.int .i64 x119000_27, u119001] 25 (0, 0)) (by with_reducible apply_rules [B18.out, bA, bB, bC]) hb)
               have NB155_169 := aM ((by rw [hg]; exact Nat.ne_of_lt (blk_lt (g := gb155) (o := .cells #[.int .i64 t150, .slice Ao131 t151.length co131] 25 (0, 0)) (by with_reducible apply_rules [B55.out, bA, bB, bC])) : gb155 ≠ gb169))
               have NB169_155 := aM ((by rw [hg]; exact Nat.ne_of_gt (blk_lt (g := gb155) (o := .cells #[.int .i64 t150, .slice Ao131 t151.length co131] 25 (0, 0)) (by with_reducible apply_rules [B55.out, bA, bB, bC])) : gb169 ≠ gb155))
               replace B55 := aM (bD (g := gb155) (o := .cells #[.int .i64 t150, .slice Ao131 t151.length co131] 25 (0, 0)) (by with_reducible apply_rules [B55.out, bA, bB, bC]) hb)
               clear hb hbox hg
               refine hK.out _ _ ⟨(bE B12.out 0).trans rfl, (bE B12.out 1).trans rfl, (bE B13.out 0).trans rfl, (bE B13.out 1).trans rfl⟩ (fun hHeld => ?_)
               clear hK K
               refine norm_ (a' := ?_) ?_ ?_
               rotate_left
               ·show Act.put _ (some 17) _ = _
                simp only [Act.put, pSu2, i64_w]
                rfl
               refine one_ (i := 1) (N := some 72) z7u2 rfl rfl (one_of HT_.out (by kernel_rfl)) (by decide) (fun K hK => ?_)
               refine goes_ Tryd.func24 (by kernel_rfl) rfl #[.agg #[.int .i64 a0_0, .slice A0_1 l0_1.length c0_1]] (by rfl) rfl rfl (by (try simp only [List.map_toArray, List.map_cons, List.map_nil]); first | done | rfl | (simp only [List.length_drop, List.length_take]; rfl)) ?_
               with_reducible refine (commodatumlaw12_Copy.calls a0_0 _ _ l0_1 t156 t157 _ ?side1 ?side2 A97.out).mono ?_
               (case side1 => with_reducible apply_rules [(cD HR0_1.out HB.out), cA, cB, cC])
               (case side2 => exact HC0_1.out)
               rintro e w135 ⟨v158, rfl, ho0, hb⟩
               refine ⟨_, rfl, ?_⟩
               replace HO_7 := aM (rD (by with_reducible apply_rules [HO_7.out, rA, rB, rC]) hb)
               replace HO141 := aM (rD (by with_reducible apply_rules [HO141.out, rA, rB, rC]) hb)
               replace HO144 := aM (rD (by with_reducible apply_rules [HO144.out, rA, rB, rC]) hb)
               have HO159 := aM (Kd.R_lower (Kd.R_new' (Kd.R_new' (Kd.R_new' (Kd.R_new' (Kd.R_new' ho0 (Kd.R_lt (by with_reducible apply_rules [HO_118001.out, rA, rB, rC]))) (Kd.R_lt (by with_reducible apply_rules [HO_119001.out, rA, rB, rC]))) (Kd.R_lt (by with_reducible apply_rules [HO135.out, rA, rB, rC]))) (Kd.R_lt (by with_reducible apply_rules [HO149.out, rA, rB, rC]))) (Kd.R_lt (by with_reducible apply_rules [HO153.out, rA, rB, rC]))) (below_size (by (with_reducible apply_rules [HB.out, pA, pD, pE, sT, GE112.out, GE113.out, GE117.out, GE118.out, GE155.out, GE169.out]))))
               replace HO_118001 := aM (Kd.R_elder' (by with_reducible apply_rules [HO_118001.out, rA, rB, rC]) (Kd.R_base ho0) hb)
               replace HO_119001 := aM (Kd.R_elder' (by with_reducible apply_rules [HO_119001.out, rA, rB, rC]) (Kd.R_base ho0) hb)
               replace HO135 := aM (Kd.R_elder' (by with_reducible apply_rules [HO135.out, rA, rB, rC]) (Kd.R_base ho0) hb)
               replace HO149 := aM (Kd.R_elder' (by with_reducible apply_rules [HO149.out, rA, rB, rC]) (Kd.R_base ho0) hb)
               replace HO153 := aM (Kd.R_elder' (by with_reducible apply_rules [HO153.out, rA, rB, rC]) (Kd.R_base ho0) hb)
               replace B12 := aM (bD (g := gb112) (o := .cells #[.int .i64 a0_0, .slice A0_1 l0_1.length c0_1] 25 (0, 0)) (by with_reducible apply_rules [B12.out, bA, bB, bC]) hb)
               replace B13 := aM (bD (g := gb113) (o := .cells #[.int .i64 a1_0, .slice A1_1 l1_1.length c1_1] 25 (0, 0)) (by with_reducible apply_rules [B13.out, bA, bB, bC]) hb)
               replace B17 := aM (bD (g := gb117) (o := .cells #[.int .i64 x118000_27, u118001] 25 (0, 0)) (by with_reducible apply_rules [B17.out, bA, bB, bC]) hb)
               replace B18 := aM (bD (g := gb118) (o := .cells #[.int .i64 x119000_27, u119001] 25 (0, 0)) (by with_reducible apply_rules [B18.out, bA, bB, bC]) hb)
               replace B55 := aM (bD (g := gb155) (o := .cells #[.int .i64 t150, .slice Ao131 t151.length co131] 25 (0, 0)) (by with_reducible apply_rules [B55.out, bA, bB, bC]) hb)
               replace B69 := aM (bD (g := gb169) (o := .cells #[.int .i64 0, .slice none 0 0] 25 (0, 0)) (by with_reducible apply_rules [B69.out, bA, bB, bC]) hb)
               replace HB := aM (pS_ (by (with_reducible apply_rules [HB.out, pA, pD, pE, sT, GE112.out, GE113.out, GE117.out, GE118.out, GE155.out, GE169.out])) hb)
               (try clear hb)
               (try clear hb2)
               (try clear hk)
               (try clear hi)
               (try clear ho0)
               refine hK.out _ _ ⟨(bE B12.out 0).trans rfl, (bE B12.out 1).trans rfl, (bE B13.out 0).trans rfl, (bE B13.out 1).trans rfl⟩ (fun hHeld => ?_)
               clear hK K
               refine norm_ (a' := ?_) ?_ ?_
               rotate_left
               ·show Act.put _ (some 72) _ = _
                simp only [Act.put, pSu2, i64_w]
                rfl
               refine one_ (i := 3) (N := some 74) z9u2 rfl rfl (one_of HT_.out (by kernel_rfl)) (by decide) (fun K hK => ?_)
               refine goes_ Tryd.func24 (by kernel_rfl) rfl #[.agg #[.int .i64 a1_0, .slice A1_1 l1_1.length c1_1]] (by rfl) rfl rfl (by (try simp only [List.map_toArray, List.map_cons, List.map_nil]); first | done | rfl | (simp only [List.length_drop, List.length_take]; rfl)) ?_
               with_reducible refine (commodatumlaw12_Copy.calls a1_0 _ _ l1_1 t160 t161 _ ?side1 ?side2 A98.out).mono ?_
               (case side1 => with_reducible apply_rules [(cD HR1_1.out HB.out), cA, cB, cC])
               (case side2 => exact HC1_1.out)
               rintro e w136 ⟨v162, rfl, ho0, hb⟩
               refine ⟨_, rfl, ?_⟩
               replace HO_7 := aM (rD (by with_reducible apply_rules [HO_7.out, rA, rB, rC]) hb)
               replace HO141 := aM (rD (by with_reducible apply_rules [HO141.out, rA, rB, rC]) hb)
               replace HO144 := aM (rD (by with_reducible apply_rules [HO144.out, rA, rB, rC]) hb)
               have HO163 := aM (Kd.R_lower (Kd.R_new' (Kd.R_new' (Kd.R_new' (Kd.R_new' (Kd.R_new' (Kd.R_new' ho0 (Kd.R_lt (by with_reducible apply_rules [HO_118001.out, rA, rB, rC]))) (Kd.R_lt (by with_reducible apply_rules [HO_119001.out, rA, rB, rC]))) (Kd.R_lt (by with_reducible apply_rules [HO135.out, rA, rB, rC]))) (Kd.R_lt (by with_reducible apply_rules [HO149.out, rA, rB, rC]))) (Kd.R_lt (by with_reducible apply_rules [HO153.out, rA, rB, rC]))) (Kd.R_lt (by with_reducible apply_rules [HO159.out, rA, rB, rC]))) (below_size (by (with_reducible apply_rules [HB.out, pA, pD, pE, sT, GE112.out, GE113.out, GE117.out, GE118.out, GE155.out, GE169.out]))))
               replace HO_118001 := aM (Kd.R_elder' (by with_reducible apply_rules [HO_118001.out, rA, rB, rC]) (Kd.R_base ho0) hb)
               replace HO_119001 := aM (Kd.R_elder' (by with_reducible apply_rules [HO_119001.out, rA, rB, rC]) (Kd.R_base ho0) hb)
               replace HO135 := aM (Kd.R_elder' (by with_reducible apply_rules [HO135.out, rA, rB, rC]) (Kd.R_base ho0) hb)
               replace HO149 := aM (Kd.R_elder' (by with_reducible apply_rules [HO149.out, rA, rB, rC]) (Kd.R_base ho0) hb)
               replace HO153 := aM (Kd.R_elder' (by with_reducible apply_rules [HO153.out, rA, rB, rC]) (Kd.R_base ho0) hb)
               replace HO159 := aM (Kd.R_elder' (by with_reducible apply_rules [HO159.out, rA, rB, rC]) (Kd.R_base ho0) hb)
               replace B12 := aM (bD (g := gb112) (o := .cells #[.int .i64 a0_0, .slice A0_1 l0_1.length c0_1] 25 (0, 0)) (by with_reducible apply_rules [B12.out, bA, bB, bC]) hb)
               replace B13 := aM (bD (g := gb113) (o := .cells #[.int .i64 a1_0, .slice A1_1 l1_1.length c1_1] 25 (0, 0)) (by with_reducible apply_rules [B13.out, bA, bB, bC]) hb)
               replace B17 := aM (bD (g := gb117) (o := .cells #[.int .i64 x118000_27, u118001] 25 (0, 0)) (by with_reducible apply_rules [B17.out, bA, bB, bC]) hb)
               replace B18 := aM (bD (g := gb118) (o := .cells #[.int .i64 x119000_27, u119001] 25 (0, 0)) (by with_reducible apply_rules [B18.out, bA, bB, bC]) hb)
               replace B55 := aM (bD (g := gb155) (o := .cells #[.int .i64 t150, .slice Ao131 t151.length co131] 25 (0, 0)) (by with_reducible apply_rules [B55.out, bA, bB, bC]) hb)
               replace B69 := aM (bD (g := gb169) (o := .cells #[.int .i64 0, .slice none 0 0] 25 (0, 0)) (by with_reducible apply_rules [B69.out, bA, bB, bC]) hb)
               replace HB := aM (pS_ (by (with_reducible apply_rules [HB.out, pA, pD, pE, sT, GE112.out, GE113.out, GE117.out, GE118.out, GE155.out, GE169.out])) hb)
               (try clear hb)
               (try clear hb2)
               (try clear hk)
               (try clear hi)
               (try clear ho0)
               obtain ⟨Ao137, co137, eo137⟩ := Kd.R_slice HO159.out
               (first | subst eo137 | (injection eo137 with f1_ f2_ f3_; have f4_ := f1_.symm; have f5_ := f3_.symm; clear f1_ f2_ f3_; subst f4_; subst f5_))
               obtain ⟨Ao138, co138, eo138⟩ := Kd.R_slice HO163.out
               (first | subst eo138 | (injection eo138 with f1_ f2_ f3_; have f4_ := f1_.symm; have f5_ := f3_.symm; clear f1_ f2_ f3_; subst f4_; subst f5_))
               refine hK.out _ _ ⟨(bE B12.out 0).trans rfl, (bE B12.out 1).trans rfl, (bE B13.out 0).trans rfl, (bE B13.out 1).trans rfl⟩ (fun hHeld => ?_)
               clear hK K
               refine norm_ (a' := ?_) ?_ ?_
               rotate_left
               ·show Act.put _ (some 74) _ = _
                simp only [Act.put, pSu2, i64_w]
                rfl
               refine one_ (i := 4) (N := some 75) z13u2 rfl rfl (one_of HT_.out (by kernel_rfl)) (by decide) (fun K hK => ?_)
               refine goes_ Tryd.func38 (by kernel_rfl) rfl #[.agg #[.int .i64 t156, .slice Ao137 t157.length co137], .agg #[.int .i64 t160, .slice Ao138 t161.length co138]] (by rfl) rfl rfl (by (try simp only [List.map_toArray, List.map_cons, List.map_nil]); first | done | rfl | (simp only [List.length_drop, List.length_take]; rfl)) ?_
               with_reducible refine (undo_Join.calls kj27 t156 (fun k_ => some k_ = (.slice Ao137 t157.length co137 : Value).ownBlock) _ _ t157 t160 (fun k_ => some k_ = (.slice Ao138 t161.length co138 : Value).ownBlock) _ _ t161 t164 t165 t168 _ ?side1 ?side2 A99.out).mono ?_
               (case side1 => exact Kd.R_V (Kd.R_tight rfl (Kd.R_types (Kd.R_types (Kd.R_types (Kd.R_types (Kd.R_types (Kd.R_types (Kd.R_apart' (Kd.R_apart' (Kd.R_apart' (HO159.out) (Kd.R_typed HO_7.out) (by decide)) (Kd.R_typed HO141.out) (by decide)) (Kd.R_typed HO144.out) (by decide)) B12.out (by decide)) B13.out (by decide)) B17.out (by decide)) B18.out (by decide)) B55.out (by decide)) B69.out (by decide))))
               (case side2 => exact Kd.R_V (Kd.R_tight rfl (Kd.R_types (Kd.R_types (Kd.R_types (Kd.R_types (Kd.R_types (Kd.R_types (Kd.R_apart' (Kd.R_apart' (Kd.R_apart' (HO163.out) (Kd.R_typed HO_7.out) (by decide)) (Kd.R_typed HO141.out) (by decide)) (Kd.R_typed HO144.out) (by decide)) B12.out (by decide)) B13.out (by decide)) B17.out (by decide)) B18.out (by decide)) B55.out (by decide)) B69.out (by decide))))
               rintro e w139 ⟨v166, rfl, ho0, hb⟩
               refine ⟨_, rfl, ?_⟩
               replace HO_7 := aM (rD (by with_reducible apply_rules [HO_7.out, rA, rB, rC]) hb)
               replace HO141 := aM (rD (by with_reducible apply_rules [HO141.out, rA, rB, rC]) hb)
               replace HO144 := aM (rD (by with_reducible apply_rules [HO144.out, rA, rB, rC]) hb)
               have HO167 := aM (Kd.R_lower (Kd.R_new' (Kd.R_new' (Kd.R_new' (Kd.R_new' (Kd.R_new' (Kd.R_new' (Kd.R_new' (rE (ok' := fun k_ => True) ho0 (fun _ hk_ => trivial)) (Kd.R_lt (by with_reducible apply_rules [HO_118001.out, rA, rB, rC]))) (Kd.R_lt (by with_reducible apply_rules [HO_119001.out, rA, rB, rC]))) (Kd.R_lt (by with_reducible apply_rules [HO135.out, rA, rB, rC]))) (Kd.R_lt (by with_reducible apply_rules [HO149.out, rA, rB, rC]))) (Kd.R_lt (by with_reducible apply_rules [HO153.out, rA, rB, rC]))) (Kd.R_lt (by with_reducible apply_rules [HO159.out, rA, rB, rC]))) (Kd.R_lt (by with_reducible apply_rules [HO163.out, rA, rB, rC]))) (below_size (by (with_reducible apply_rules [HB.out, pA, pD, pE, sT, GE112.out, GE113.out, GE117.out, GE118.out, GE155.out, GE169.out]))))
               replace HO_118001 := aM (Kd.R_elder' (by with_reducible apply_rules [HO_118001.out, rA, rB, rC]) (Kd.R_base ho0) hb)
               replace HO_119001 := aM (Kd.R_elder' (by with_reducible apply_rules [HO_119001.out, rA, rB, rC]) (Kd.R_base ho0) hb)
               replace HO135 := aM (Kd.R_elder' (by with_reducible apply_rules [HO135.out, rA, rB, rC]) (Kd.R_base ho0) hb)
               replace HO149 := aM (Kd.R_elder' (by with_reducible apply_rules [HO149.out, rA, rB, rC]) (Kd.R_base ho0) hb)
               replace HO153 := aM (Kd.R_elder' (by with_reducible apply_rules [HO153.out, rA, rB, rC]) (Kd.R_base ho0) hb)
               replace HO159 := aM (Kd.R_elder' (by with_reducible apply_rules [HO159.out, rA, rB, rC]) (Kd.R_base ho0) hb)
               replace HO163 := aM (Kd.R_elder' (by with_reducible apply_rules [HO163.out, rA, rB, rC]) (Kd.R_base ho0) hb)
               replace B12 := aM (bD (g := gb112) (o := .cells #[.int .i64 a0_0, .slice A0_1 l0_1.length c0_1] 25 (0, 0)) (by with_reducible apply_rules [B12.out, bA, bB, bC]) hb)
               replace B13 := aM (bD (g := gb113) (o := .cells #[.int .i64 a1_0, .slice A1_1 l1_1.length c1_1] 25 (0, 0)) (by with_reducible apply_rules [B13.out, bA, bB, bC]) hb)
               replace B17 := aM (bD (g := gb117) (o := .cells #[.int .i64 x118000_27, u118001] 25 (0, 0)) (by with_reducible apply_rules [B17.out, bA, bB, bC]) hb)
               replace B18 := aM (bD (g := gb118) (o := .cells #[.int .i64 x119000_27, u119001] 25 (0, 0)) (by with_reducible apply_rules [B18.out, bA, bB, bC]) hb)
               replace B55 := aM (bD (g := gb155) (o := .cells #[.int .i64 t150, .slice Ao131 t151.length co131] 25 (0, 0)) (by with_reducible apply_rules [B55.out, bA, bB, bC]) hb)
               replace B69 := aM (bD (g := gb169) (o := .cells #[.int .i64 0, .slice none 0 0] 25 (0, 0)) (by with_reducible apply_rules [B69.out, bA, bB, bC]) hb)
               replace HB := aM (pS_ (by (with_reducible apply_rules [HB.out, pA, pD, pE, sT, GE112.out, GE113.out, GE117.out, GE118.out, GE155.out, GE169.out])) hb)
               (try clear hb)
               (try clear hb2)
               (try clear hk)
               (try clear hi)
               (try clear ho0)
               refine hK.out _ _ ⟨(bE B12.out 0).trans rfl, (bE B12.out 1).trans rfl, (bE B13.out 0).trans rfl, (bE B13.out 1).trans rfl⟩ (fun hHeld => ?_)
               clear hK K
               refine norm_ (a' := ?_) ?_ ?_
               rotate_left
               ·show Act.put _ (some 75) _ = _
                simp only [Act.put, pSu2, i64_w]
                rfl
               refine pure_ (i := 5) (N := some 70) (v := ?_) (a' := ?_) z14u2 rfl rfl (any_of HT_.out (by kernel_rfl)) (fun _ _ _ h => h) (Or.inl ⟨by rfl, ?_⟩) ?_ ?_; rotate_left; (intro w'; go_simp; with_reducible rfl); rotate_left; (simp only [Act.put, pSu2, i64_w]; rfl)
               refine pure_ (i := 6) (N := some 76) (v := ?_) (a' := ?_) z15u2 rfl rfl (any_of HT_.out (by kernel_rfl)) (fun _ _ _ h => h) (Or.inl ⟨by rfl, ?_⟩) ?_ ?_; rotate_left; (intro w'; go_simp; with_reducible rfl); rotate_left; (simp only [Act.put, pSu2, i64_w]; rfl)
               refine pure_ (i := 7) (N := some 77) (v := ?_) (a' := ?_) z3u2 rfl rfl (any_of HT_.out (by kernel_rfl)) (fun _ _ _ h => h) (Or.inl ⟨by rfl, ?_⟩) ?_ ?_; rotate_left; (intro w'; go_simp; with_reducible rfl); rotate_left; (simp only [Act.put, pSu2, i64_w]; rfl)
               exact norm_ (by simp only [putAll, Act.put, pSu2]) (hCont (.slice Ao137 t157.length co137, .slice Ao138 t161.length co138, v166, gb169) _ ⟨hHeld, (by (with_reducible repeat (first | apply rA | apply rB | apply rC)); exact rE HO135.out (fun _ hk => ⟨hk.1.1.1.2.2.1, ⟨hk.1.1.1.2.2.2, ⟨hk.1.1.2, ⟨hk.1.2, ⟨hk.2, ⟨hk.1.1.1.1, hk.1.1.1.2.1⟩⟩⟩⟩⟩⟩)), (by (with_reducible repeat (first | apply rA | apply rB | apply rC)); exact rE HO141.out (fun _ hk => ⟨hk.2, hk.1⟩)), (by (with_reducible repeat (first | apply rA | apply rB | apply rC)); exact rE HO144.out (fun _ hk => ⟨hk.2, hk.1⟩)), (by (with_reducible repeat (first | apply rA | apply rB | apply rC)); exact rE HO149.out (fun _ hk => ⟨hk.1.1.1.2.2.1, ⟨hk.1.1.1.2.2.2, ⟨hk.1.1.2, ⟨hk.1.2, ⟨hk.2, ⟨hk.1.1.1.1, hk.1.1.1.2.1⟩⟩⟩⟩⟩⟩)), (by (with_reducible repeat (first | apply rA | apply rB | apply rC)); exact rE HO153.out (fun _ hk => ⟨hk.1.1.1.2.2.1, ⟨hk.1.1.1.2.2.2, ⟨hk.1.1.2, ⟨hk.1.2, ⟨hk.2, ⟨hk.1.1.1.1, hk.1.1.1.2.1⟩⟩⟩⟩⟩⟩)), (by (with_reducible repeat (first | apply rA | apply rB | apply rC)); exact rE HO159.out (fun _ hk => ⟨hk.1.1.1.1.2, ⟨hk.1.1.1.2, ⟨hk.1.1.2, ⟨hk.1.2, ⟨hk.2, ⟨hk.1.1.1.1.1.1.2, hk.1.1.1.1.1.2⟩⟩⟩⟩⟩⟩)), (by (with_reducible repeat (first | apply rA | apply rB | apply rC)); exact rE HO163.out (fun _ hk => ⟨hk.1.1.1.1.2, ⟨hk.1.1.1.2, ⟨hk.1.1.2, ⟨hk.1.2, ⟨hk.2, ⟨hk.1.1.1.1.1.1.2, hk.1.1.1.1.1.2⟩⟩⟩⟩⟩⟩)), (by (with_reducible repeat (first | apply rA | apply rB | apply rC)); exact rE HO167.out (fun _ hk => ⟨hk.1.1.1.1.2, ⟨hk.1.1.1.2, ⟨hk.1.1.2, ⟨hk.1.2, ⟨hk.2, ⟨hk.1.1.1.1.1.1.2, hk.1.1.1.1.1.2⟩⟩⟩⟩⟩⟩)), (by (with_reducible repeat (first | apply rA | apply rB | apply rC)); exact rE HO_118001.out (fun _ hk => ⟨hk.1.1.1.2.1, ⟨hk.1.1.1.2.2.1, ⟨hk.1.1.1.2.2.2, ⟨hk.1.1.2, ⟨hk.1.2, ⟨hk.2, hk.1.1.1.1⟩⟩⟩⟩⟩⟩)), (by (with_reducible repeat (first | apply rA | apply rB | apply rC)); exact rE HO_119001.out (fun _ hk => ⟨hk.1.1.1.2.1, ⟨hk.1.1.1.2.2.1, ⟨hk.1.1.1.2.2.2, ⟨hk.1.1.2, ⟨hk.1.2, ⟨hk.2, hk.1.1.1.1⟩⟩⟩⟩⟩⟩)), (by with_reducible apply_rules [HO_7.out, rA, rB, rC]), (by with_reducible apply_rules [B12.out, bA, bB, bC]), (by with_reducible apply_rules [B13.out, bA, bB, bC]), (by with_reducible apply_rules [B17.out, bA, bB, bC]), (by with_reducible apply_rules [B18.out, bA, bB, bC]), (by with_reducible apply_rules [B55.out, bA, bB, bC]), (by with_reducible apply_rules [B69.out, bA, bB, bC]), GW169.out, GE169.out, NB112_169.out, NB169_112.out, NB113_169.out, NB169_113.out, NB117_169.out, NB169_117.out, NB118_169.out, NB169_118.out, NB155_169.out, NB169_155.out, (by (with_reducible apply_rules [HB.out, pA, pD, pE, sT, GE112.out, GE113.out, GE117.out, GE118.out, GE155.out, GE169.out]))⟩)
             rintro ⟨v158, v162, v166, gb169⟩ w140 ⟨hS_, h0_, h1_, h2_, h3_, h4_, h5_, h6_, h7_, h8_, h9_, h10_, h11_, h12_, h13_, h14_, h15_, h16_, h17_, h18_, h19_, h20_, h21_, h22_, h23_, h24_, h25_, h26_, h27_, h28_, h29_⟩
             replace HO135 : Aside0 (Kd.R k67 67 w140 w.heap.size (fun k_ => some k_ ≠ (.slice Ao123 t147.length co123 : Value).ownBlock ∧ some k_ ≠ (.slice Ao131 t151.length co131 : Value).ownBlock ∧ some k_ ≠ (v158 : Value).ownBlock ∧ some k_ ≠ (v162 : Value).ownBlock ∧ some k_ ≠ (v166 : Value).ownBlock ∧ some k_ ≠ (u118001 : Value).ownBlock ∧ some k_ ≠ (u119001 : Value).ownBlock) (.slice Ao118 t133.length co118) t133) := ⟨h0_⟩
             replace HO141 : Aside0 (Kd.R Kd.bool 4 w140 w.heap.size (fun k_ => some k_ ≠ (v143 : Value).ownBlock ∧ some k_ ≠ (u7 : Value).ownBlock) (.slice Ao119 y139.length co119) y139) := ⟨h1_⟩
             replace HO144 : Aside0 (Kd.R Kd.bool 4 w140 w.heap.size (fun k_ => some k_ ≠ (.slice Ao119 y139.length co119 : Value).ownBlock ∧ some k_ ≠ (u7 : Value).ownBlock) v143 t142) := ⟨h2_⟩
             replace HO149 : Aside0 (Kd.R k67 67 w140 w.heap.size (fun k_ => some k_ ≠ (.slice Ao118 t133.length co118 : Value).ownBlock ∧ some k_ ≠ (.slice Ao131 t151.length co131 : Value).ownBlock ∧ some k_ ≠ (v158 : Value).ownBlock ∧ some k_ ≠ (v162 : Value).ownBlock ∧ some k_ ≠ (v166 : Value).ownBlock ∧ some k_ ≠ (u118001 : Value).ownBlock ∧ some k_ ≠ (u119001 : Value).ownBlock) (.slice Ao123 t147.length co123) t147) := ⟨h3_⟩
             replace HO153 : Aside0 (Kd.R k67 67 w140 w.heap.size (fun k_ => some k_ ≠ (.slice Ao118 t133.length co118 : Value).ownBlock ∧ some k_ ≠ (.slice Ao123 t147.length co123 : Value).ownBlock ∧ some k_ ≠ (v158 : Value).ownBlock ∧ some k_ ≠ (v162 : Value).ownBlock ∧ some k_ ≠ (v166 : Value).ownBlock ∧ some k_ ≠ (u118001 : Value).ownBlock ∧ some k_ ≠ (u119001 : Value).ownBlock) (.slice Ao131 t151.length co131) t151) := ⟨h4_⟩
             have HO159 : Aside0 (Kd.R k67 67 w140 w.heap.size (fun k_ => some k_ ≠ (.slice Ao118 t133.length co118 : Value).ownBlock ∧ some k_ ≠ (.slice Ao123 t147.length co123 : Value).ownBlock ∧ some k_ ≠ (.slice Ao131 t151.length co131 : Value).ownBlock ∧ some k_ ≠ (v162 : Value).ownBlock ∧ some k_ ≠ (v166 : Value).ownBlock ∧ some k_ ≠ (u118001 : Value).ownBlock ∧ some k_ ≠ (u119001 : Value).ownBlock) v158 t157) := ⟨h5_⟩
             have HO163 : Aside0 (Kd.R k67 67 w140 w.heap.size (fun k_ => some k_ ≠ (.slice Ao118 t133.length co118 : Value).ownBlock ∧ some k_ ≠ (.slice Ao123 t147.length co123 : Value).ownBlock ∧ some k_ ≠ (.slice Ao131 t151.length co131 : Value).ownBlock ∧ some k_ ≠ (v158 : Value).ownBlock ∧ some k_ ≠ (v166 : Value).ownBlock ∧ some k_ ≠ (u118001 : Value).ownBlock ∧ some k_ ≠ (u119001 : Value).ownBlock) v162 t161) := ⟨h6_⟩
             have HO167 : Aside0 (Kd.R k67 67 w140 w.heap.size (fun k_ => some k_ ≠ (.slice Ao118 t133.length co118 : Value).ownBlock ∧ some k_ ≠ (.slice Ao123 t147.length co123 : Value).ownBlock ∧ some k_ ≠ (.slice Ao131 t151.length co131 : Value).ownBlock ∧ some k_ ≠ (v158 : Value).ownBlock ∧ some k_ ≠ (v162 : Value).ownBlock ∧ some k_ ≠ (u118001 : Value).ownBlock ∧ some k_ ≠ (u119001 : Value).ownBlock) v166 t165) := ⟨h7_⟩
             replace HO_118001 : Aside0 (Kd.R k67 67 w140 w.heap.size (fun k_ => some k_ ≠ (.slice Ao118 t133.length co118 : Value).ownBlock ∧ some k_ ≠ (.slice Ao123 t147.length co123 : Value).ownBlock ∧ some k_ ≠ (.slice Ao131 t151.length co131 : Value).ownBlock ∧ some k_ ≠ (v158 : Value).ownBlock ∧ some k_ ≠ (v162 : Value).ownBlock ∧ some k_ ≠ (v166 : Value).ownBlock ∧ some k_ ≠ (u119001 : Value).ownBlock) u118001 x118001_27) := ⟨h8_⟩
             replace HO_119001 : Aside0 (Kd.R k67 67 w140 w.heap.size (fun k_ => some k_ ≠ (.slice Ao118 t133.length co118 : Value).ownBlock ∧ some k_ ≠ (.slice Ao123 t147.length co123 : Value).ownBlock ∧ some k_ ≠ (.slice Ao131 t151.length co131 : Value).ownBlock ∧ some k_ ≠ (v158 : Value).ownBlock ∧ some k_ ≠ (v162 : Value).ownBlock ∧ some k_ ≠ (v166 : Value).ownBlock ∧ some k_ ≠ (u118001 : Value).ownBlock) u119001 x119001_27) := ⟨h9_⟩
             replace HO_7 : Aside0 (Kd.R Kd.bool 4 w140 w.heap.size (fun k_ => some k_ ≠ (.slice Ao119 y139.length co119 : Value).ownBlock ∧ some k_ ≠ (v143 : Value).ownBlock) u7 x7_27) := ⟨h10_⟩
             replace B12 : Aside0 (w140.heap[gb112]? = some (.cells #[.int .i64 a0_0, .slice A0_1 l0_1.length c0_1] 25 (0, 0))) := ⟨h11_⟩
             replace B13 : Aside0 (w140.heap[gb113]? = some (.cells #[.int .i64 a1_0, .slice A1_1 l1_1.length c1_1] 25 (0, 0))) := ⟨h12_⟩
             replace B17 : Aside0 (w140.heap[gb117]? = some (.cells #[.int .i64 x118000_27, u118001] 25 (0, 0))) := ⟨h13_⟩
             replace B18 : Aside0 (w140.heap[gb118]? = some (.cells #[.int .i64 x119000_27, u119001] 25 (0, 0))) := ⟨h14_⟩
             replace B55 : Aside0 (w140.heap[gb155]? = some (.cells #[.int .i64 t150, .slice Ao131 t151.length co131] 25 (0, 0))) := ⟨h15_⟩
             have B69 : Aside0 (w140.heap[gb169]? = some (.cells #[.int .i64 0, .slice none 0 0] 25 (0, 0))) := ⟨h16_⟩
             have GW169 : Aside0 (w.heap.size ≤ gb169) := ⟨h17_⟩
             have GE169 : Aside0 (w.heap.size ≤ gb169) := ⟨h18_⟩
             have NB112_169 : Aside0 (gb112 ≠ gb169) := ⟨h19_⟩
             have NB169_112 : Aside0 (gb169 ≠ gb112) := ⟨h20_⟩
             have NB113_169 : Aside0 (gb113 ≠ gb169) := ⟨h21_⟩
             have NB169_113 : Aside0 (gb169 ≠ gb113) := ⟨h22_⟩
             have NB117_169 : Aside0 (gb117 ≠ gb169) := ⟨h23_⟩
             have NB169_117 : Aside0 (gb169 ≠ gb117) := ⟨h24_⟩
             have NB118_169 : Aside0 (gb118 ≠ gb169) := ⟨h25_⟩
             have NB169_118 : Aside0 (gb169 ≠ gb118) := ⟨h26_⟩
             have NB155_169 : Aside0 (gb155 ≠ gb169) := ⟨h27_⟩
             have NB169_155 : Aside0 (gb169 ≠ gb155) := ⟨h28_⟩
             replace HB : Aside0 (Below w.heap.size w w140) := ⟨h29_⟩
             clear h0_ h1_ h2_ h3_ h4_ h5_ h6_ h7_ h8_ h9_ h10_ h11_ h12_ h13_ h14_ h15_ h16_ h17_ h18_ h19_ h20_ h21_ h22_ h23_ h24_ h25_ h26_ h27_ h28_ h29_
             have hHeld : w140.cell? ⟨gb112, 0, none⟩ = some (.int .i64 a0_0) ∧ w140.cell? ⟨gb112, 1, none⟩ = some (.slice A0_1 l0_1.length c0_1) ∧ w140.cell? ⟨gb113, 0, none⟩ = some (.int .i64 a1_0) ∧ w140.cell? ⟨gb113, 1, none⟩ = some (.slice A1_1 l1_1.length c1_1) := hS_
             obtain ⟨Ao142, co142, eo142⟩ := Kd.R_slice HO167.out
             (first | subst eo142 | (injection eo142 with f1_ f2_ f3_; have f4_ := f1_.symm; have f5_ := f3_.symm; clear f1_ f2_ f3_; subst f4_; subst f5_))
             refine norm_ (a' := ?_) ?_ ?_
             rotate_left
             ·simp only [putAll, Act.put, pSu2]
              rfl
             refine one_ (i := 9) (N := none) z16u2 rfl rfl (one_of HT_.out (by kernel_rfl)) (by decide) (fun K hK => ?_)
             have hs141 : w140.cell? ⟨gb169, 0, none⟩ = some (.int .i64 0) := (bE B69.out 0).trans rfl
             have hfs141 := bF B69.out 0
             have hns141_0 := NB112_169.out
             have hns141_1 := NB113_169.out
             have hns141_2 := NB117_169.out
             have hns141_3 := NB118_169.out
             have hns141_4 := NB155_169.out
             have hms141_0 := NB169_112.out
             have hms141_1 := NB169_113.out
             have hms141_2 := NB169_117.out
             have hms141_3 := NB169_118.out
             have hms141_4 := NB169_155.out
             have hs143 : w140.cell? ⟨gb169, 1, none⟩ = some (.slice none 0 0) := (bE B69.out 1).trans rfl
             have hfs143 := bF B69.out 1
             have hns143_0 := NB112_169.out
             have hns143_1 := NB113_169.out
             have hns143_2 := NB117_169.out
             have hns143_3 := NB118_169.out
             have hns143_4 := NB155_169.out
             have hms143_0 := NB169_112.out
             have hms143_1 := NB169_113.out
             have hms143_2 := NB169_117.out
             have hms143_3 := NB169_118.out
             have hms143_4 := NB169_155.out
             refine skip_ (w1 := ?_) (by rfl) rfl ?_ ?_
             rotate_left
             ·go_simp
              rfl
             refine hK.out _ _ ⟨((cell_far (p := ⟨gb169, _, none⟩) NB112_169.out _).trans (((cell_far (p := ⟨gb169, _, none⟩) NB112_169.out _).trans (hHeld.1)))), ((cell_far (p := ⟨gb169, _, none⟩) NB112_169.out _).trans (((cell_far (p := ⟨gb169, _, none⟩) NB112_169.out _).trans (hHeld.2.1)))), ((cell_far (p := ⟨gb169, _, none⟩) NB113_169.out _).trans (((cell_far (p := ⟨gb169, _, none⟩) NB113_169.out _).trans (hHeld.2.2.1)))), ((cell_far (p := ⟨gb169, _, none⟩) NB113_169.out _).trans (((cell_far (p := ⟨gb169, _, none⟩) NB113_169.out _).trans (hHeld.2.2.2))))⟩ (fun hHeld => ?_)
             clear hK K
             refine pure_ (i := 10) (N := some 18) (v := ?_) (a' := ?_) z17u2 rfl rfl (any_of HT_.out (by kernel_rfl)) (fun _ _ _ h => h) (Or.inl ⟨by rfl, ?_⟩) ?_ ?_; rotate_left; (intro w'; go_simp; with_reducible rfl); rotate_left; (simp only [Act.put, pSu2, i64_w]; rfl)
             refine done_ (done_of HT_.out (by kernel_rfl)) ?_
             obtain ⟨Ao144, co144, eo144⟩ := Kd.R_slice HO144.out
             subst eo144
             obtain ⟨Ao145, co145, eo145⟩ := Kd.R_slice HO_7.out
             subst eo145
             try go_wp2_with (first | (go_at_call 26; (with_reducible refine (commodatumref12_Equal.calls kj27 _ _ t142 _ _ x7_27 true _ ?side1 ?side2 ?side3 ?side4 A101.out).mono ?_); (case side1 => refine (Kd.R_reads' (e := 4) (base := w.heap.size) (ok := fun k_ => (some k_ ≠ (.slice Ao119 y139.length co119 : Value).ownBlock ∧ some k_ ≠ (.slice Ao145 x7_27.length co145 : Value).ownBlock)) (n := t142.length) (c := co144) ?_).2.2; exact (by (with_reducible repeat (first | apply rA | apply rB | apply rC)); exact (rE (Kd.R_far (p := ⟨gb169, 1, none⟩) (Kd.R_far (p := ⟨gb169, 0, none⟩) (Kd.R_types HO144.out B69.out (by decide)) (fun _ hk => hk.2) (.int .i64 t164)) (fun _ hk => hk.2) (.slice Ao142 t165.length co142)) (fun _ h_ => h_.1)))); (case side2 => exact (Kd.R_reads' HO144.out).2.1); (case side3 => refine (Kd.R_reads' (e := 4) (base := w.heap.size) (ok := fun k_ => (some k_ ≠ (.slice Ao119 y139.length co119 : Value).ownBlock ∧ some k_ ≠ (.slice Ao144 t142.length co144 : Value).ownBlock)) (n := x7_27.length) (c := co145) ?_).2.2; exact (by (with_reducible repeat (first | apply rA | apply rB | apply rC)); exact (rE (Kd.R_far (p := ⟨gb169, 1, none⟩) (Kd.R_far (p := ⟨gb169, 0, none⟩) (Kd.R_types HO_7.out B69.out (by decide)) (fun _ hk => hk.2) (.int .i64 t164)) (fun _ hk => hk.2) (.slice Ao142 t165.length co142)) (fun _ h_ => h_.1)))); (case side4 => exact (Kd.R_reads' HO_7.out).2.1); rintro e w' ⟨rfl, ⟨nd, rfl⟩⟩; have hnb146 := NB155_169.out; have hnc146 := NB169_155.out; have hcz147_0 : w140.cell? ⟨gb155, 0, none⟩ = some (.int .i64 t150) := (bE B55.out 0).trans rfl; have hcz147_1 : w140.cell? ⟨gb155, 1, none⟩ = some (.slice Ao131 t151.length co131) := (bE B55.out 1).trans rfl; have hfz147_0 := bF B55.out 0; have hfz147_1 := bF B55.out 1; have hnb148 := NB117_113.out; have hnc148 := NB113_117.out; have hnb149 := NB117_118.out; have hnc149 := NB118_117.out; have hnb150 := NB117_169.out; have hnc150 := NB169_117.out; have hcz151_0 : w140.cell? ⟨gb117, 0, none⟩ = some (.int .i64 x118000_27) := (bE B17.out 0).trans rfl; have hcz151_1 : w140.cell? ⟨gb117, 1, none⟩ = some (u118001) := (bE B17.out 1).trans rfl; have hfz151_0 := bF B17.out 0; have hfz151_1 := bF B17.out 1; obtain ⟨Ao152, co152, eo152⟩ := Kd.R_slice HO_118001.out; subst eo152) | (go_at_call 16; (with_reducible refine (commodatumref12_Same.calls kj27 t150 _ _ t151 x118000_27 _ _ x118001_27 true _ ?side1 ?side2 ?side3 ?side4 A104.out).mono ?_); (case side1 => refine (Kd.R_reads' (e := 67) (base := w.heap.size) (ok := fun k_ => (some k_ ≠ (.slice Ao118 t133.length co118 : Value).ownBlock ∧ (some k_ ≠ (.slice Ao123 t147.length co123 : Value).ownBlock ∧ (some k_ ≠ (v158 : Value).ownBlock ∧ (some k_ ≠ (v162 : Value).ownBlock ∧ (some k_ ≠ (.slice Ao142 t165.length co142 : Value).ownBlock ∧ (some k_ ≠ (.slice Ao152 x118001_27.length co152 : Value).ownBlock ∧ some k_ ≠ (u119001 : Value).ownBlock))))))) (n := t151.length) (c := co131) ?_).2.2; exact (by (with_reducible repeat (first | apply rA | apply rB | apply rC)); exact (rE (Kd.R_far (p := ⟨gb169, 1, none⟩) (Kd.R_far (p := ⟨gb169, 0, none⟩) (Kd.R_types HO153.out B69.out (by decide)) (fun _ hk => hk.2) (.int .i64 t164)) (fun _ hk => hk.2) (.slice Ao142 t165.length co142)) (fun _ h_ => h_.1)))); (case side2 => exact (Kd.R_reads' HO153.out).2.1); (case side3 => refine (Kd.R_reads' (e := 67) (base := w.heap.size) (ok := fun k_ => (some k_ ≠ (.slice Ao118 t133.length co118 : Value).ownBlock ∧ (some k_ ≠ (.slice Ao123 t147.length co123 : Value).ownBlock ∧ (some k_ ≠ (.slice Ao131 t151.length co131 : Value).ownBlock ∧ (some k_ ≠ (v158 : Value).ownBlock ∧ (some k_ ≠ (v162 : Value).ownBlock ∧ (some k_ ≠ (.slice Ao142 t165.length co142 : Value).ownBlock ∧ some k_ ≠ (u119001 : Value).ownBlock))))))) (n := x118001_27.length) (c := co152) ?_).2.2; exact (by (with_reducible repeat (first | apply rA | apply rB | apply rC)); exact (rE (Kd.R_far (p := ⟨gb169, 1, none⟩) (Kd.R_far (p := ⟨gb169, 0, none⟩) (Kd.R_types HO_118001.out B69.out (by decide)) (fun _ hk => hk.2) (.int .i64 t164)) (fun _ hk => hk.2) (.slice Ao142 t165.length co142)) (fun _ h_ => h_.1)))); (case side4 => exact (Kd.R_reads' HO_118001.out).2.1); rintro e w153 ⟨rfl, hb⟩; replace HO_7 := aM (rD (by (with_reducible repeat (first | apply rA | apply rB | apply rC)); exact (rE (Kd.R_far (p := ⟨gb169, 1, none⟩) (Kd.R_far (p := ⟨gb169, 0, none⟩) (Kd.R_types HO_7.out B69.out (by decide)) (fun _ hk => hk.2) (.int .i64 t164)) (fun _ hk => hk.2) (.slice Ao142 t165.length co142)) (fun _ h_ => h_.1))) hb); replace HO_118001 := aM (rD (by (with_reducible repeat (first | apply rA | apply rB | apply rC)); exact (rE (Kd.R_far (p := ⟨gb169, 1, none⟩) (Kd.R_far (p := ⟨gb169, 0, none⟩) (Kd.R_types HO_118001.out B69.out (by decide)) (fun _ hk => hk.2) (.int .i64 t164)) (fun _ hk => hk.2) (.slice Ao142 t165.length co142)) (fun _ h_ => h_.1))) hb); replace HO_119001 := aM (rD (by (with_reducible repeat (first | apply rA | apply rB | apply rC)); exact (rE (Kd.R_far (p := ⟨gb169, 1, none⟩) (Kd.R_far (p := ⟨gb169, 0, none⟩) (Kd.R_types HO_119001.out B69.out (by decide)) (fun _ hk => hk.2) (.int .i64 t164)) (fun _ hk => hk.2) (.slice Ao142 t165.length co142)) (fun _ h_ => h_.1))) hb); replace HO135 := aM (rD (by (with_reducible repeat (first | apply rA | apply rB | apply rC)); exact (rE (Kd.R_far (p := ⟨gb169, 1, none⟩) (Kd.R_far (p := ⟨gb169, 0, none⟩) (Kd.R_types HO135.out B69.out (by decide)) (fun _ hk => hk.2) (.int .i64 t164)) (fun _ hk => hk.2) (.slice Ao142 t165.length co142)) (fun _ h_ => h_.1))) hb); replace HO141 := aM (rD (by (with_reducible repeat (first | apply rA | apply rB | apply rC)); exact (rE (Kd.R_far (p := ⟨gb169, 1, none⟩) (Kd.R_far (p := ⟨gb169, 0, none⟩) (Kd.R_types HO141.out B69.out (by decide)) (fun _ hk => hk.2) (.int .i64 t164)) (fun _ hk => hk.2) (.slice Ao142 t165.length co142)) (fun _ h_ => h_.1))) hb); replace HO144 := aM (rD (by (with_reducible repeat (first | apply rA | apply rB | apply rC)); exact (rE (Kd.R_far (p := ⟨gb169, 1, none⟩) (Kd.R_far (p := ⟨gb169, 0, none⟩) (Kd.R_types HO144.out B69.out (by decide)) (fun _ hk => hk.2) (.int .i64 t164)) (fun _ hk => hk.2) (.slice Ao142 t165.length co142)) (fun _ h_ => h_.1))) hb); replace HO149 := aM (rD (by (with_reducible repeat (first | apply rA | apply rB | apply rC)); exact (rE (Kd.R_far (p := ⟨gb169, 1, none⟩) (Kd.R_far (p := ⟨gb169, 0, none⟩) (Kd.R_types HO149.out B69.out (by decide)) (fun _ hk => hk.2) (.int .i64 t164)) (fun _ hk => hk.2) (.slice Ao142 t165.length co142)) (fun _ h_ => h_.1))) hb); replace HO153 := aM (rD (by (with_reducible repeat (first | apply rA | apply rB | apply rC)); exact (rE (Kd.R_far (p := ⟨gb169, 1, none⟩) (Kd.R_far (p := ⟨gb169, 0, none⟩) (Kd.R_types HO153.out B69.out (by decide)) (fun _ hk => hk.2) (.int .i64 t164)) (fun _ hk => hk.2) (.slice Ao142 t165.length co142)) (fun _ h_ => h_.1))) hb); replace HO159 := aM (rD (by (with_reducible repeat (first | apply rA | apply rB | apply rC)); exact (rE (Kd.R_far (p := ⟨gb169, 1, none⟩) (Kd.R_far (p := ⟨gb169, 0, none⟩) (Kd.R_types HO159.out B69.out (by decide)) (fun _ hk => hk.2) (.int .i64 t164)) (fun _ hk => hk.2) (.slice Ao142 t165.length co142)) (fun _ h_ => h_.1))) hb); replace HO163 := aM (rD (by (with_reducible repeat (first | apply rA | apply rB | apply rC)); exact (rE (Kd.R_far (p := ⟨gb169, 1, none⟩) (Kd.R_far (p := ⟨gb169, 0, none⟩) (Kd.R_types HO163.out B69.out (by decide)) (fun _ hk => hk.2) (.int .i64 t164)) (fun _ hk => hk.2) (.slice Ao142 t165.length co142)) (fun _ h_ => h_.1))) hb); replace HO167 := aM (rD (by (with_reducible repeat (first | apply rA | apply rB | apply rC)); exact (rE (Kd.R_far (p := ⟨gb169, 1, none⟩) (Kd.R_far (p := ⟨gb169, 0, none⟩) (Kd.R_types HO167.out B69.out (by decide)) (fun _ hk => hk.2) (.int .i64 t164)) (fun _ hk => hk.2) (.slice Ao142 t165.length co142)) (fun _ h_ => h_.1))) hb); replace B12 := aM (bD (g := gb112) (o := .cells #[.int .i64 a0_0, .slice A0_1 l0_1.length c0_1] 25 (0, 0)) (by (with_reducible repeat (first | refine bA ?_ _ | refine bB ?_ | refine bC ?_ _)); refine bG ?_ NB112_169.out _; (with_reducible repeat (first | refine bA ?_ _ | refine bB ?_ | refine bC ?_ _)); refine bG ?_ NB112_169.out _; with_reducible apply_rules [B12.out, bA, bB, bC]) hb); replace B13 := aM (bD (g := gb113) (o := .cells #[.int .i64 a1_0, .slice A1_1 l1_1.length c1_1] 25 (0, 0)) (by (with_reducible repeat (first | refine bA ?_ _ | refine bB ?_ | refine bC ?_ _)); refine bG ?_ NB113_169.out _; (with_reducible repeat (first | refine bA ?_ _ | refine bB ?_ | refine bC ?_ _)); refine bG ?_ NB113_169.out _; with_reducible apply_rules [B13.out, bA, bB, bC]) hb); replace B17 := aM (bD (g := gb117) (o := .cells #[.int .i64 x118000_27, .slice Ao152 x118001_27.length co152] 25 (0, 0)) (by (with_reducible repeat (first | refine bA ?_ _ | refine bB ?_ | refine bC ?_ _)); refine bG ?_ NB117_169.out _; (with_reducible repeat (first | refine bA ?_ _ | refine bB ?_ | refine bC ?_ _)); refine bG ?_ NB117_169.out _; with_reducible apply_rules [B17.out, bA, bB, bC]) hb); replace B18 := aM (bD (g := gb118) (o := .cells #[.int .i64 x119000_27, u119001] 25 (0, 0)) (by (with_reducible repeat (first | refine bA ?_ _ | refine bB ?_ | refine bC ?_ _)); refine bG ?_ NB118_169.out _; (with_reducible repeat (first | refine bA ?_ _ | refine bB ?_ | refine bC ?_ _)); refine bG ?_ NB118_169.out _; with_reducible apply_rules [B18.out, bA, bB, bC]) hb); replace B55 := aM (bD (g := gb155) (o := .cells #[.int .i64 t150, .slice Ao131 t151.length co131] 25 (0, 0)) (by (with_reducible repeat (first | refine bA ?_ _ | refine bB ?_ | refine bC ?_ _)); refine bG ?_ NB155_169.out _; (with_reducible repeat (first | refine bA ?_ _ | refine bB ?_ | refine bC ?_ _)); refine bG ?_ NB155_169.out _; with_reducible apply_rules [B55.out, bA, bB, bC]) hb); replace B69 := aM (bD (g := gb169) (o := .cells #[.int .i64 t164, .slice Ao142 t165.length co142] 25 (0, 0)) (by (with_reducible repeat (first | refine bA ?_ _ | refine bB ?_ | refine bC ?_ _)); refine blk_put (cs := #[.int .i64 t164, .slice none 0 0]) ?_ 1 _ rfl; (with_reducible repeat (first | refine bA ?_ _ | refine bB ?_ | refine bC ?_ _)); refine blk_put (cs := #[.int .i64 0, .slice none 0 0]) ?_ 0 _ rfl; with_reducible apply_rules [B69.out, bA, bB, bC]) hb); replace HB := aM (pS_ (by (with_reducible apply_rules [HB.out, pA, pD, pE, sT, GE112.out, GE113.out, GE117.out, GE118.out, GE155.out, GE169.out])) hb); (try clear hb); (try clear hb2); (try clear hk); (try clear hi); have hnb154 := NB169_112.out; have hnc154 := NB112_169.out; have hnb155 := NB169_113.out; have hnc155 := NB113_169.out; have hnb156 := NB169_118.out; have hnc156 := NB118_169.out; have hcz157_0 : w153.cell? ⟨gb169, 0, none⟩ = some (.int .i64 t164) := (bE B69.out 0).trans rfl; have hcz157_1 : w153.cell? ⟨gb169, 1, none⟩ = some (.slice Ao142 t165.length co142) := (bE B69.out 1).trans rfl; have hfz157_0 := bF B69.out 0; have hfz157_1 := bF B69.out 1; have hnb158 := NB118_113.out; have hnc158 := NB113_118.out; have hcz159_0 : w153.cell? ⟨gb118, 0, none⟩ = some (.int .i64 x119000_27) := (bE B18.out 0).trans rfl; have hcz159_1 : w153.cell? ⟨gb118, 1, none⟩ = some (u119001) := (bE B18.out 1).trans rfl; have hfz159_0 := bF B18.out 0; have hfz159_1 := bF B18.out 1; obtain ⟨Ao160, co160, eo160⟩ := Kd.R_slice HO_119001.out; subst eo160) | (go_at_call 16; (with_reducible refine (commodatumref12_Same.calls kj27 t164 _ _ t165 x119000_27 _ _ x119001_27 true _ ?side1 ?side2 ?side3 ?side4 A107.out).mono ?_); (case side1 => repeat (first | exact (Kd.R_reads' HO167.out).2.2 | (with_reducible refine cA ?_ _) | (with_reducible refine cB ?_ _) | (with_reducible refine cC ?_))); (case side2 => exact (Kd.R_reads' HO167.out).2.1); (case side3 => repeat (first | exact (Kd.R_reads' HO_119001.out).2.2 | (with_reducible refine cA ?_ _) | (with_reducible refine cB ?_ _) | (with_reducible refine cC ?_))); (case side4 => exact (Kd.R_reads' HO_119001.out).2.1); rintro e w161 ⟨rfl, hb⟩; replace HO_7 := aM (rD (by with_reducible apply_rules [HO_7.out, rA, rB, rC]) hb); replace HO_118001 := aM (rD (by with_reducible apply_rules [HO_118001.out, rA, rB, rC]) hb); replace HO_119001 := aM (rD (by with_reducible apply_rules [HO_119001.out, rA, rB, rC]) hb); replace HO135 := aM (rD (by with_reducible apply_rules [HO135.out, rA, rB, rC]) hb); replace HO141 := aM (rD (by with_reducible apply_rules [HO141.out, rA, rB, rC]) hb); replace HO144 := aM (rD (by with_reducible apply_rules [HO144.out, rA, rB, rC]) hb); replace HO149 := aM (rD (by with_reducible apply_rules [HO149.out, rA, rB, rC]) hb); replace HO153 := aM (rD (by with_reducible apply_rules [HO153.out, rA, rB, rC]) hb); replace HO159 := aM (rD (by with_reducible apply_rules [HO159.out, rA, rB, rC]) hb); replace HO163 := aM (rD (by with_reducible apply_rules [HO163.out, rA, rB, rC]) hb); replace HO167 := aM (rD (by with_reducible apply_rules [HO167.out, rA, rB, rC]) hb); replace B12 := aM (bD (g := gb112) (o := .cells #[.int .i64 a0_0, .slice A0_1 l0_1.length c0_1] 25 (0, 0)) (by with_reducible apply_rules [B12.out, bA, bB, bC]) hb); replace B13 := aM (bD (g := gb113) (o := .cells #[.int .i64 a1_0, .slice A1_1 l1_1.length c1_1] 25 (0, 0)) (by with_reducible apply_rules [B13.out, bA, bB, bC]) hb); replace B17 := aM (bD (g := gb117) (o := .cells #[.int .i64 x118000_27, .slice Ao152 x118001_27.length co152] 25 (0, 0)) (by with_reducible apply_rules [B17.out, bA, bB, bC]) hb); replace B18 := aM (bD (g := gb118) (o := .cells #[.int .i64 x119000_27, .slice Ao160 x119001_27.length co160] 25 (0, 0)) (by with_reducible apply_rules [B18.out, bA, bB, bC]) hb); replace B55 := aM (bD (g := gb155) (o := .cells #[.int .i64 t150, .slice Ao131 t151.length co131] 25 (0, 0)) (by with_reducible apply_rules [B55.out, bA, bB, bC]) hb); replace B69 := aM (bD (g := gb169) (o := .cells #[.int .i64 t164, .slice Ao142 t165.length co142] 25 (0, 0)) (by with_reducible apply_rules [B69.out, bA, bB, bC]) hb); replace HB := aM (pS_ (by (with_reducible apply_rules [HB.out, pA, pD, pE, sT, GE112.out, GE113.out, GE117.out, GE118.out, GE155.out, GE169.out])) hb); (try clear hb); (try clear hb2); (try clear hk); (try clear hi)) | (go_at_call 12; (with_reducible refine (commodatumlaw12_Awake.calls kj27  t173 _ ?side1 A109.out).mono ?_); (case side1 => exact Laid.below HLAY.out (by (with_reducible apply_rules [HB.out, pA, pD, pE, sT, GE112.out, GE113.out, GE117.out, GE118.out, GE155.out, GE169.out]))); rintro e w162 ⟨rfl, hb⟩; replace HO_7 := aM (rD (by with_reducible apply_rules [HO_7.out, rA, rB, rC]) hb); replace HO_118001 := aM (rD (by with_reducible apply_rules [HO_118001.out, rA, rB, rC]) hb); replace HO_119001 := aM (rD (by with_reducible apply_rules [HO_119001.out, rA, rB, rC]) hb); replace HO135 := aM (rD (by with_reducible apply_rules [HO135.out, rA, rB, rC]) hb); replace HO141 := aM (rD (by with_reducible apply_rules [HO141.out, rA, rB, rC]) hb); replace HO144 := aM (rD (by with_reducible apply_rules [HO144.out, rA, rB, rC]) hb); replace HO149 := aM (rD (by with_reducible apply_rules [HO149.out, rA, rB, rC]) hb); replace HO153 := aM (rD (by with_reducible apply_rules [HO153.out, rA, rB, rC]) hb); replace HO159 := aM (rD (by with_reducible apply_rules [HO159.out, rA, rB, rC]) hb); replace HO163 := aM (rD (by with_reducible apply_rules [HO163.out, rA, rB, rC]) hb); replace HO167 := aM (rD (by with_reducible apply_rules [HO167.out, rA, rB, rC]) hb); replace B12 := aM (bD (g := gb112) (o := .cells #[.int .i64 a0_0, .slice A0_1 l0_1.length c0_1] 25 (0, 0)) (by with_reducible apply_rules [B12.out, bA, bB, bC]) hb); replace B13 := aM (bD (g := gb113) (o := .cells #[.int .i64 a1_0, .slice A1_1 l1_1.length c1_1] 25 (0, 0)) (by with_reducible apply_rules [B13.out, bA, bB, bC]) hb); replace B17 := aM (bD (g := gb117) (o := .cells #[.int .i64 x118000_27, .slice Ao152 x118001_27.length co152] 25 (0, 0)) (by with_reducible apply_rules [B17.out, bA, bB, bC]) hb); replace B18 := aM (bD (g := gb118) (o := .cells #[.int .i64 x119000_27, .slice Ao160 x119001_27.length co160] 25 (0, 0)) (by with_reducible apply_rules [B18.out, bA, bB, bC]) hb); replace B55 := aM (bD (g := gb155) (o := .cells #[.int .i64 t150, .slice Ao131 t151.length co131] 25 (0, 0)) (by with_reducible apply_rules [B55.out, bA, bB, bC]) hb); replace B69 := aM (bD (g := gb169) (o := .cells #[.int .i64 t164, .slice Ao142 t165.length co142] 25 (0, 0)) (by with_reducible apply_rules [B69.out, bA, bB, bC]) hb); replace HB := aM (pS_ (by (with_reducible apply_rules [HB.out, pA, pD, pE, sT, GE112.out, GE113.out, GE117.out, GE118.out, GE155.out, GE169.out])) hb); (try clear hb); (try clear hb2); (try clear hk); (try clear hi)))
             go_ret
             exact ⟨by first | rfl | (simp [errW_none, errW_some] <;> rfl) | (simp [*, errW_none, errW_some] <;> rfl), by (with_reducible apply_rules [HB.out, pA, pD, pE, sT, GE112.out, GE113.out, GE117.out, GE118.out, GE155.out, GE169.out])⟩
            ·replace c108 := Bool.eq_false_iff.mpr c108
             subst c108
             have H1 : (none) = some r := by rw [if_neg (show ¬ (false = true) by decide)] at H; exact H
             exact absurd H1 (by simp)
           ·rw [if_neg c106] at H
            exact absurd H (by simp)
          ·replace c105 := Bool.eq_false_iff.mpr c105
           subst c105
           have H1 : (none) = some r := by rw [if_neg (show ¬ (false = true) by decide)] at H; exact H
           exact absurd H1 (by simp)
         ·rw [if_neg c103] at H
          exact absurd H (by simp)
        ·replace c102 := Bool.eq_false_iff.mpr c102
         subst c102
         have H1 : (none) = some r := by rw [if_neg (show ¬ (false = true) by decide)] at H; exact H
         exact absurd H1 (by simp)
       ·rw [if_neg c100] at H
        exact absurd H (by simp)
      ·rw [if_neg c93] at H
       exact absurd H (by simp)

end Go.Proofs.YthfhnkpipdbekaaDoor.Tu
