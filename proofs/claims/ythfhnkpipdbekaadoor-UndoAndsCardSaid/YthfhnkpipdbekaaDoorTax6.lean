-- CUT by a program of this session: what the claim does not use is left out
import Derived.Test.YthfhnkpipdbekaaDoorUax0
import Derived.Test.YthfhnkpipdbekaaDoorProg
import Derived.Below
import Derived.Deep.Draws
import Derived.Deep.AppendLies
import Derived.Maps.AppendAt
import Derived.OwnWalk
import Derived.Laws.BytesArg
import Derived.Laws.MakeOwn
import Derived.Laws.OwnMore
import Derived.Deep.OwnRows
import Derived.Tactics
import Derived.Lib.ConvBytes
import Derived.Laws.Slices
import Derived.WalkKit
import Derived.KernelRfl
import Derived.RowKit3
import Derived.Deep.LoopGhost
import Derived.Deep.QuietTactic
import Derived.BigQuiet
import Derived.WideLaws
import Derived.Deep.DeepCutAuto
import Derived.Deep.CutBlock
import Derived.Deep.RegionHeld3
import Derived.Laws.Rows
import Derived.Lib.AppendStr
import Derived.ArgAppend
import Derived.Laws.IdiomCopy
import Derived.OrdersHeld
import Derived.Laws.BitsLemmas
import Derived.RowKit
import Derived.Test.YthfhnkpipdbekaaDoorN6
import Derived.Test.YthfhnkpipdbekaaDoorWAll
namespace Go.Proofs.YthfhnkpipdbekaaDoor.Ta
open Go.Proofs.YthfhnkpipdbekaaDoor.Ua
open Go.Proofs.YthfhnkpipdbekaaDoor.Giv
open Go.RowKit Go.Proofs.YthfhnkpipdbekaaDoorW.PrintWords Go.Proofs.YthfhnkpipdbekaaDoorW.PrintLast Go.Proofs.YthfhnkpipdbekaaDoorW.PrintMore
attribute [local go_sem] max2_int min2_int max_two min_two max_three min_three max_four min_four   -- for this text's walks alone
set_option linter.unusedVariables false
set_option linter.unusedSimpArgs false

def commodatumref12_Run.l0 : Nat → List Bool → Int → Int → List (S67) → Option (List Bool)
 | 0, _, _, _, _ => none
 | k + 1, x5, x6, x168000, x168001 => if x6 < (x168001.length : Int) then (if 0 ≤ x6 then (if ((rd_T67 x168001 x6).f0) = 0 then (if 0 ≤ ((rd_T67 x168001 x6).f1) then (if ((rd_T67 x168001 x6).f1) < (x5.length : Int) then (commodatumref12_Run.l0 k (x5.set (((rd_T67 x168001 x6).f1) : Int).toNat (!(rdOf false x5 ((rd_T67 x168001 x6).f1)))) (wrap64 (x6 + 1)) x168000 x168001) else (none)) else (none)) else (if ((rd_T67 x168001 x6).f0) = 1 then (if 0 ≤ ((rd_T67 x168001 x6).f1) then (if ((rd_T67 x168001 x6).f1) < (x5.length : Int) then (if 0 ≤ ((rd_T67 x168001 x6).f2) then (if ((rd_T67 x168001 x6).f2) < (x5.length : Int) then (commodatumref12_Run.l0 k (x5.set (((rd_T67 x168001 x6).f1) : Int).toNat ((rdOf false x5 ((rd_T67 x168001 x6).f1)) != (rdOf false x5 ((rd_T67 x168001 x6).f2)))) (wrap64 (x6 + 1)) x168000 x168001) else (none)) else (none)) else (none)) else (none)) else (if ((rd_T67 x168001 x6).f0) = 2 then (if 0 ≤ ((rd_T67 x168001 x6).f1) then (if ((rd_T67 x168001 x6).f1) < (x5.length : Int) then (if 0 ≤ ((rd_T67 x168001 x6).f2) then (if ((rd_T67 x168001 x6).f2) < (x5.length : Int) then (if rdOf false x5 ((rd_T67 x168001 x6).f2) = true then (if 0 ≤ ((rd_T67 x168001 x6).f3) then (if ((rd_T67 x168001 x6).f3) < (x5.length : Int) then (commodatumref12_Run.l0 k (x5.set (((rd_T67 x168001 x6).f1) : Int).toNat ((rdOf false x5 ((rd_T67 x168001 x6).f1)) != (rdOf false x5 ((rd_T67 x168001 x6).f3)))) (wrap64 (x6 + 1)) x168000 x168001) else (none)) else (none)) else (commodatumref12_Run.l0 k (x5.set (((rd_T67 x168001 x6).f1) : Int).toNat ((rdOf false x5 ((rd_T67 x168001 x6).f1)) != false)) (wrap64 (x6 + 1)) x168000 x168001)) else (none)) else (none)) else (none)) else (none)) else (if ((rd_T67 x168001 x6).f0) = 3 then (if 0 ≤ ((rd_T67 x168001 x6).f1) then (if ((rd_T67 x168001 x6).f1) < (x5.length : Int) then (if 0 ≤ ((rd_T67 x168001 x6).f2) then (if ((rd_T67 x168001 x6).f2) < (x5.length : Int) then (commodatumref12_Run.l0 k ((x5.set (((rd_T67 x168001 x6).f1) : Int).toNat (rdOf false x5 ((rd_T67 x168001 x6).f2))).set (((rd_T67 x168001 x6).f2) : Int).toNat (rdOf false x5 ((rd_T67 x168001 x6).f1))) (wrap64 (x6 + 1)) x168000 x168001) else (none)) else (none)) else (none)) else (none)) else (commodatumref12_Run.l0 k x5 (wrap64 (x6 + 1)) x168000 x168001))))) else (none)) else (some x5)
def commodatumref12_Run.f (k : Nat) (a0_0 : Int) (l0_1 : List (S67)) (l1 : List Bool) : Option (List Bool) := (some (([] : List Bool) : List Bool)).bind fun y168 => (if y168.length + l1.length < 140737488355328 then (commodatumref12_Run.l0 k (y168 ++ l1) 0 a0_0 l0_1) else (none))
def commodatumref12_Run.T8 : Bool × List (List Nat × List Nat) := (true, [([], []), ([], []), ([1], [1]), ([], []), ([], []), ([4], [4]), ([3, 5], [3, 5]), ([6], [6]), ([7], [7]), ([0, 2, 0, 1, 2, 3, 4, 5, 6, 7, 8], [0, 2]), ([9, 8, 0, 1, 2, 3, 4, 5, 6, 7, 8], [8, 9])])
def commodatumref12_Run.B8 : List Nat := [0, 0, 2, 0, 0, 16, 56, 120, 248, 511, 1023]
theorem commodatumref12_Run.tab8 : rtab .any (opsOf Tryd.f40 8) = commodatumref12_Run.T8 := by kernel_rfl
theorem commodatumref12_Run.bits8 : waitsOk commodatumref12_Run.T8.2 commodatumref12_Run.B8 = true := by kernel_rfl
def commodatumref12_Run.T10 : Bool × List (List Nat × List Nat) := (true, [([], []), ([], []), ([1], [1]), ([], []), ([], []), ([4], [4]), ([3, 5], [3, 5]), ([6], [6]), ([], []), ([], []), ([9], [9]), ([8, 10], [8, 10]), ([11], [11]), ([7, 12], [7, 12]), ([0, 2, 0, 1, 2, 3, 4, 5, 6, 7, 8, 9, 10, 11, 12, 13], [0, 2]), ([14, 13, 0, 1, 2, 3, 4, 5, 6, 7, 8, 9, 10, 11, 12, 13], [13, 14])])
def commodatumref12_Run.B10 : List Nat := [0, 0, 2, 0, 0, 16, 56, 120, 0, 0, 512, 1792, 3840, 8184, 16383, 32767]
theorem commodatumref12_Run.tab10 : rtab .any (opsOf Tryd.f40 10) = commodatumref12_Run.T10 := by kernel_rfl
theorem commodatumref12_Run.bits10 : waitsOk commodatumref12_Run.T10.2 commodatumref12_Run.B10 = true := by kernel_rfl
def commodatumref12_Run.T12 : Bool × List (List Nat × List Nat) := (true, [([], []), ([], []), ([1], [1]), ([], []), ([], []), ([4], [4]), ([3, 5], [3, 5]), ([6], [6]), ([], []), ([], []), ([9], [9]), ([8, 10], [8, 10]), ([11], [11]), ([12], [12]), ([13], [13]), ([13], [13]), ([15, 13], [13, 15]), ([14, 16, 13], [13, 14, 16]), ([17, 13], [13, 17]), ([13, 18], [13, 18]), ([7, 19], [7, 19]), ([0, 2, 0, 1, 2, 3, 4, 5, 6, 7, 8, 9, 10, 11, 12, 13, 14, 15, 16, 17, 18, 19, 20], [0, 2]), ([21, 20, 13, 0, 1, 2, 3, 4, 5, 6, 7, 8, 9, 10, 11, 12, 13, 14, 15, 16, 17, 18, 19, 20], [20, 21])])
def commodatumref12_Run.B12 : List Nat := [0, 0, 2, 0, 0, 16, 56, 120, 0, 0, 512, 1792, 3840, 7936, 16128, 16128, 48896, 130816, 261888, 524032, 1048568, 2097151, 4194303]
theorem commodatumref12_Run.tab12 : rtab .any (opsOf Tryd.f40 12) = commodatumref12_Run.T12 := by kernel_rfl
theorem commodatumref12_Run.bits12 : waitsOk commodatumref12_Run.T12.2 commodatumref12_Run.B12 = true := by kernel_rfl
def commodatumref12_Run.T15 : Bool × List (List Nat × List Nat) := (true, [([], []), ([], []), ([1], [1]), ([], []), ([], []), ([4], [4]), ([3, 5], [3, 5]), ([6], [6]), ([0, 2, 0, 1, 2, 3, 4, 5, 6, 7], [0, 2]), ([8, 7, 0, 1, 2, 3, 4, 5, 6, 7], [7, 8])])
def commodatumref12_Run.B15 : List Nat := [0, 0, 2, 0, 0, 16, 56, 120, 255, 511]
theorem commodatumref12_Run.tab15 : rtab .any (opsOf Tryd.f40 15) = commodatumref12_Run.T15 := by kernel_rfl
theorem commodatumref12_Run.bits15 : waitsOk commodatumref12_Run.T15.2 commodatumref12_Run.B15 = true := by kernel_rfl
theorem pSa6 {α : Type} : (∀ (l : List α) (i : Nat) (a : α), l.toArray.setIfInBounds i a = (l.set i a).toArray) ∧ (∀ (l : List α) (x y : α), (x :: l).set 0 y = y :: l) ∧ (∀ (l : List α) (x y : α) (n : Nat), (x :: l).set (n + 1) y = x :: l.set n y) :=
 ⟨fun _ _ _ => List.setIfInBounds_toArray .., fun _ _ _ => rfl, fun _ _ _ _ => rfl⟩
open Bool renaming true → T, false → F
open Go.Proofs.YthfhnkpipdbekaaDoorW.PrintWords renaming Kd.R_alloc → rA, Kd.R_drewN → rB, Kd.R_drew → rC, blk_drewN → bA, blk_drew → bB, blk_alloc → bC, below_set → sT, Aside0.mk → aM, pw_below_drewN → pD, below_drew1 → pE, below_alloc → pA, blk_cell → bE, blk_frozen → bF, blk_far → bG
abbrev z0a6 : Array Bool := #[F,F,F,F,F,F,F,F,F,F,F]
abbrev z1a6 : Array Bool := #[T,F,F,F,F,F,F,F,F,F,F]
abbrev z2a6 : Array Bool := #[T,T,F,F,F,F,F,F,F,F,F]
abbrev z3a6 : Array Bool := #[T,T,F,T,F,F,F,F,F,F,F]
abbrev z4a6 : Array Bool := #[T,T,F,T,T,F,F,F,F,F,F]
abbrev z5a6 : Array Bool := #[T,T,T,T,T,F,F,F,F,F,F]
abbrev z6a6 : Array Bool := #[T,T,T,T,T,T,F,F,F,F,F]
abbrev z7a6 : Array Bool := #[T,T,T,T,T,T,T,F,F,F,F]
abbrev z8a6 : Array Bool := #[T,T,T,T,T,T,T,T,F,F,F]
abbrev z9a6 : Array Bool := #[T,T,T,T,T,T,T,T,T,F,F]
abbrev z10a6 : Array Bool := #[T,T,T,T,T,T,T,T,T,T,F]
abbrev z11a6 : Array Bool := #[T,T,T,T,T,T,T,T,T,T,T]
abbrev z12a6 : Array Bool := #[F,F,F,F,F,F,F,F,F,F,F,F,F,F,F,F]
abbrev z13a6 : Array Bool := #[T,F,F,F,F,F,F,F,F,F,F,F,F,F,F,F]
abbrev z14a6 : Array Bool := #[T,T,F,F,F,F,F,F,F,F,F,F,F,F,F,F]
abbrev z15a6 : Array Bool := #[T,T,F,T,F,F,F,F,F,F,F,F,F,F,F,F]
abbrev z16a6 : Array Bool := #[T,T,F,T,T,F,F,F,F,F,F,F,F,F,F,F]
abbrev z17a6 : Array Bool := #[T,T,F,T,T,F,F,F,T,F,F,F,F,F,F,F]
abbrev z18a6 : Array Bool := #[T,T,F,T,T,F,F,F,T,T,F,F,F,F,F,F]
abbrev z19a6 : Array Bool := #[T,T,T,T,T,F,F,F,T,T,F,F,F,F,F,F]
abbrev z20a6 : Array Bool := #[T,T,T,T,T,T,F,F,T,T,F,F,F,F,F,F]
abbrev z21a6 : Array Bool := #[T,T,T,T,T,T,T,F,T,T,F,F,F,F,F,F]
abbrev z22a6 : Array Bool := #[T,T,T,T,T,T,T,T,T,T,F,F,F,F,F,F]
abbrev z23a6 : Array Bool := #[T,T,T,T,T,T,T,T,T,T,T,F,F,F,F,F]
abbrev z24a6 : Array Bool := #[T,T,T,T,T,T,T,T,T,T,T,T,F,F,F,F]
abbrev z25a6 : Array Bool := #[T,T,T,T,T,T,T,T,T,T,T,T,T,F,F,F]
abbrev z26a6 : Array Bool := #[T,T,T,T,T,T,T,T,T,T,T,T,T,T,F,F]
abbrev z27a6 : Array Bool := #[T,T,T,T,T,T,T,T,T,T,T,T,T,T,T,F]
abbrev z28a6 : Array Bool := #[T,T,T,T,T,T,T,T,T,T,T,T,T,T,T,T]
abbrev z29a6 : Array Bool := #[F,F,F,F,F,F,F,F,F,F,F,F,F,F,F,F,F,F,F,F,F,F,F]
abbrev z30a6 : Array Bool := #[T,F,F,F,F,F,F,F,F,F,F,F,F,F,F,F,F,F,F,F,F,F,F]
abbrev z31a6 : Array Bool := #[T,T,F,F,F,F,F,F,F,F,F,F,F,F,F,F,F,F,F,F,F,F,F]
abbrev z32a6 : Array Bool := #[T,T,F,T,F,F,F,F,F,F,F,F,F,F,F,F,F,F,F,F,F,F,F]
abbrev z33a6 : Array Bool := #[T,T,F,T,T,F,F,F,F,F,F,F,F,F,F,F,F,F,F,F,F,F,F]
abbrev z34a6 : Array Bool := #[T,T,F,T,T,F,F,F,T,F,F,F,F,F,F,F,F,F,F,F,F,F,F]
abbrev z35a6 : Array Bool := #[T,T,F,T,T,F,F,F,T,T,F,F,F,F,F,F,F,F,F,F,F,F,F]
abbrev z36a6 : Array Bool := #[T,T,T,T,T,F,F,F,T,T,F,F,F,F,F,F,F,F,F,F,F,F,F]
abbrev z37a6 : Array Bool := #[T,T,T,T,T,T,F,F,T,T,F,F,F,F,F,F,F,F,F,F,F,F,F]
abbrev z38a6 : Array Bool := #[T,T,T,T,T,T,T,F,T,T,F,F,F,F,F,F,F,F,F,F,F,F,F]
abbrev z39a6 : Array Bool := #[T,T,T,T,T,T,T,T,T,T,F,F,F,F,F,F,F,F,F,F,F,F,F]
abbrev z40a6 : Array Bool := #[T,T,T,T,T,T,T,T,T,T,T,F,F,F,F,F,F,F,F,F,F,F,F]
abbrev z41a6 : Array Bool := #[T,T,T,T,T,T,T,T,T,T,T,T,F,F,F,F,F,F,F,F,F,F,F]
abbrev z42a6 : Array Bool := #[T,T,T,T,T,T,T,T,T,T,T,T,T,F,F,F,F,F,F,F,F,F,F]
abbrev z43a6 : Array Bool := #[T,T,T,T,T,T,T,T,T,T,T,T,T,T,F,F,F,F,F,F,F,F,F]
abbrev z44a6 : Array Bool := #[T,T,T,T,T,T,T,T,T,T,T,T,T,T,T,F,F,F,F,F,F,F,F]
abbrev z45a6 : Array Bool := #[T,T,T,T,T,T,T,T,T,T,T,T,T,T,T,T,F,F,F,F,F,F,F]
abbrev z46a6 : Array Bool := #[T,T,T,T,T,T,T,T,T,T,T,T,T,T,T,T,T,F,F,F,F,F,F]
abbrev z47a6 : Array Bool := #[T,T,T,T,T,T,T,T,T,T,T,T,T,T,T,T,T,T,F,F,F,F,F]
abbrev z48a6 : Array Bool := #[T,T,T,T,T,T,T,T,T,T,T,T,T,T,T,T,T,T,T,F,F,F,F]
abbrev z49a6 : Array Bool := #[T,T,T,T,T,T,T,T,T,T,T,T,T,T,T,T,T,T,T,T,F,F,F]
abbrev z50a6 : Array Bool := #[T,T,T,T,T,T,T,T,T,T,T,T,T,T,T,T,T,T,T,T,T,F,F]
abbrev z51a6 : Array Bool := #[T,T,T,T,T,T,T,T,T,T,T,T,T,T,T,T,T,T,T,T,T,T,F]
abbrev z52a6 : Array Bool := #[T,T,T,T,T,T,T,T,T,T,T,T,T,T,T,T,T,T,T,T,T,T,T]
abbrev z53a6 : Array Bool := #[F,F,F,F,F,F,F,F,F,F]
abbrev z54a6 : Array Bool := #[T,F,F,F,F,F,F,F,F,F]
abbrev z55a6 : Array Bool := #[T,T,F,F,F,F,F,F,F,F]
abbrev z56a6 : Array Bool := #[T,T,F,T,F,F,F,F,F,F]
abbrev z57a6 : Array Bool := #[T,T,F,T,T,F,F,F,F,F]
abbrev z58a6 : Array Bool := #[T,T,T,T,T,F,F,F,F,F]
abbrev z59a6 : Array Bool := #[T,T,T,T,T,T,F,F,F,F]
abbrev z60a6 : Array Bool := #[T,T,T,T,T,T,T,F,F,F]
abbrev z61a6 : Array Bool := #[T,T,T,T,T,T,T,T,F,F]
abbrev z62a6 : Array Bool := #[T,T,T,T,T,T,T,T,T,F]
abbrev z63a6 : Array Bool := #[T,T,T,T,T,T,T,T,T,T]
set_option maxHeartbeats 8000000 in
set_option maxRecDepth 100000 in
theorem commodatumref12_Run.calls (k : Nat) (a0_0 : Int) (A0_1 : Option Addr) (c0_1 : Nat) (l0_1 : List (S67)) (A1 : Option Addr) (c1 : Nat) (l1 : List Bool) (r : List Bool) (w : World) (hr0_1 : Kd.C k67 w A0_1 l0_1.length l0_1) (hc0_1 : l0_1.length ≤ c0_1) (hr1 : Kd.C Kd.bool w A1 l1.length l1) (hc1 : l1.length ≤ c1) (h : commodatumref12_Run.f k a0_0 l0_1 l1 = some r) :
  Calls Tryd.prog 40 #[.agg #[.int .i64 a0_0, .slice A0_1 l0_1.length c0_1], .slice A1 l1.length c1] w fun e w' => ∃ v0_ : Value, e = .returned (v0_) ∧ Kd.R Kd.bool 4 w' w.heap.size (fun _ => True) v0_ r ∧ Below w.heap.size w w' := by
 have hu25 := Tryd.underlying25
 have hu67 := Tryd.underlying67
 have HR0_1 := aM hr0_1
 have HC0_1 := aM hc0_1
 clear hr0_1 hc0_1
 have HR1 := aM hr1
 have HC1 := aM hc1
 clear hr1 hc1
 have HB := aM (Below.refl w.heap.size w)
 have H : ((some (([] : List Bool) : List Bool)).bind fun y168 => (if y168.length + l1.length < 140737488355328 then (commodatumref12_Run.l0 k (y168 ++ l1) 0 a0_0 l0_1) else (none))) = some r := h
 clear h
 obtain ⟨y168, hy168⟩ : ∃ y_ : List Bool, y_ = (([] : List Bool)) := ⟨_, rfl⟩
 replace H : (if y168.length + l1.length < 140737488355328 then (commodatumref12_Run.l0 k (y168 ++ l1) 0 a0_0 l0_1) else (none)) = some r := by first | (rw [hy168]; with_reducible exact H) | (have H2_ := (Option.bind_some _ _).symm.trans H; rw [hy168]; with_reducible exact H2_) | (have H2_ := (Option.bind_some _ _).symm.trans H; with_reducible exact H2_) | with_reducible exact H | (rw [hy168]; exact H) | exact H
 have Ny168 := aM hy168
 clear hy168
 by_cases c3 : y168.length + l1.length < 140737488355328
 ·rw [if_pos c3] at H
  have LMc3 := aM c3
  clear c3
  obtain ⟨y171, hy171⟩ : ∃ y_ : List Bool, y_ = (y168 ++ l1) := ⟨_, rfl⟩
  replace H : (commodatumref12_Run.l0 k y171 0 a0_0 l0_1) = some r := by first | (rw [hy171]; with_reducible exact H) | (have H2_ := (Option.bind_some _ _).symm.trans H; rw [hy171]; with_reducible exact H2_) | (have H2_ := (Option.bind_some _ _).symm.trans H; with_reducible exact H2_) | with_reducible exact H | (rw [hy171]; exact H) | exact H
  have Ny171 := aM hy171
  clear hy171
  have H' := aM H
  clear H
  go_enter Tryd.func40, Tryd.ntmps40
  go_wp2_with (first | ((with_reducible refine gate_dst (N := 2) rfl ?_); refine box_event ?hg (N := 2) ?hd (cs := #[.int .i64 a0_0, .slice A0_1 l0_1.length c0_1]) (t := 25) ?hr ?_; (case hd => rfl); (case hg => rfl); (case hr => first | (go_simp; done) | (go_simp; rfl)); intro gb167 hg w4 hbox hb; have B67 := aM (hbox); have GW167 := aM ((by rw [hg]; exact (below_size (by repeat (first | (with_reducible first | exact HB.out | apply pA | apply pD | apply pE) | exact HB.out))) : w.heap.size ≤ gb167)); have GE167 := aM ((by rw [hg]; exact (below_size (by repeat (first | (with_reducible first | exact HB.out | apply pA | apply pD | apply pE) | exact HB.out))) : w.heap.size ≤ gb167)); replace HB := aM (below_step (by repeat (first | (with_reducible first | exact HB.out | apply pA | apply pD | apply pE) | exact HB.out)) hb); clear hb hbox hg) | ((with_reducible refine gate_dst (N := 9) rfl ?_); refine Kd.R_lit Kd.bool _ 4 ?hg (N := 9) ?hd (xs := ([] : List Bool)) (inner := []) (ok := fun _ => True) (okp := fun _ => True) ?hr ?hp (fun _ hk => hk) trivial (Below.refl _ _) (Nat.le_refl _) (by simp) ?_; (case hd => rfl); (case hg => rfl); (case hr => first | (go_simp; done) | (go_simp; rfl)); (case hp => exact (Reps.none _ _)); intro v169 w5 ho6 hb hg_ hnew_; clear hg_ hnew_; (first | rw [← Ny168.out] at ho6 | (simp only [Int.reduceToNat] at ho6; rw [← Ny168.out] at ho6)); have HO170 := aM (Kd.R_lower ho6 (below_size (by repeat (first | (with_reducible first | exact HB.out | apply pA | apply pD | apply pE | refine sT ?_ GE167.out) | exact HB.out)))); replace B67 := aM (blk_below (g := gb167) (o := .cells #[.int .i64 a0_0, .slice A0_1 l0_1.length c0_1] 25 (0, 0)) (by (with_reducible repeat (first | refine bA ?_ _ | refine bB ?_ | refine bC ?_ _)); exact B67.out) hb); replace HB := aM (below_step (by repeat (first | (with_reducible first | exact HB.out | apply pA | apply pD | apply pE | refine sT ?_ GE167.out) | exact HB.out)) hb); clear hb ho6) | ((with_reducible refine gate_builtin (b := .append) (xs := #[.tmp 9, .tmp 10]) rfl ?_); at_builtin; refine Kd.R_append_rows Kd.bool (w0 := w) w.heap.size rfl (.tmp 9) (.tmp 10) 34 4 (.bool false) 1 rfl Tryd.underlying34 info4 rfl (by decide) (by omega) v169 y168 l1 _ _ _ (fun _ => True) (fun _ => False) rfl rfl ?aO ?aR (fun _ _ h => h) (fun _ h => h.elim) ?aF ?aB ?aS ?aL ?_; (case aR => with_reducible apply_rules [(Kd.C_below HR1.out HB.out), Kd.C_alloc, Kd.C_drewN, Kd.C_drew]); (case aB => exact (by repeat (first | (with_reducible first | exact HB.out | apply pA | apply pD | apply pE | refine sT ?_ GE167.out) | exact HB.out))); (case aF => exact (fun _ _ => trivial)); (case aO => exact (by (with_reducible repeat (first | apply rA | apply rB | apply rC)); exact HO170.out)); (case aS => exact (below_size (by repeat (first | (with_reducible first | exact HB.out | apply pA | apply pD | apply pE | refine sT ?_ GE167.out) | exact HB.out)))); (case aL => have := LMc3.out; omega); intro v172 w7 ho hb hg hat; rw [← Ny171.out] at ho; replace B67 := aM (blk_grown (g := gb167) (o := .cells #[.int .i64 a0_0, .slice A0_1 l0_1.length c0_1] 25 (0, 0)) (by (with_reducible repeat (first | refine bA ?_ _ | refine bB ?_ | refine bC ?_ _)); exact B67.out) hg (Kd.R_ne HO170.out B67.out (by decide))); replace HB := aM (hb); have HO173 := aM (ho); clear HO170; clear ho hb hg hat))
  go_loopg [6] k (fun kq v6 w' => ∃ (x5_1 : List Bool) (x6_1 : Int), v6 = .int .i64 x6_1 ∧ Aside0 (commodatumref12_Run.l0 kq x5_1 x6_1 a0_0 l0_1 = some r) ∧ Aside0 (kq ≤ k) ∧ Aside0 (Kd.R Kd.bool 4 w' w.heap.size (fun _ => True) v172 x5_1) ∧ Aside0 (w'.heap[gb167]? = some (.cells #[.int .i64 a0_0, (.slice A0_1 l0_1.length c0_1)] 25 (0, 0))) ∧ Aside0 (Below w.heap.size w w'))
  case atStart => exact ⟨(y171), (0), (by first | rfl | (simp; done) | (simp [*]; done)), H', ⟨Nat.le_refl _⟩, ⟨by (with_reducible repeat (first | apply rA | apply rB | apply rC)); exact HO173.out⟩, ⟨by (with_reducible repeat (first | refine bA ?_ _ | refine bB ?_ | refine bC ?_ _)); exact B67.out⟩, ⟨by repeat (first | (with_reducible first | exact HB.out | apply pA | apply pD | apply pE | refine sT ?_ GE167.out) | exact HB.out)⟩⟩
  case round =>
   clear H'
   try clear c1
   try clear p2
   try clear c3
   try clear c4
   obtain ⟨x5_1, x6_1, rfl, HA, HK1, HO_5, B67, HB⟩ := hrel
   cases gk with
   | zero => exact absurd HA.out (by simp [commodatumref12_Run.l0])
   | succ k1 =>
    have H := HA.out
    clear HA
    simp only [commodatumref12_Run.l0] at H
    by_cases c8 : x6_1 < (l0_1.length : Int)
    ·rw [if_pos c8] at H
     have c8b0 : decide (x6_1 < (l0_1.length : Int)) = true := decide_eq_true c8
     clear c8
     by_cases c9 : 0 ≤ x6_1
     ·rw [if_pos c9] at H
      have c9b0 : decide (0 ≤ x6_1) = true := decide_eq_true c9
      clear c9
      by_cases c10 : ((rd_T67 l0_1 x6_1).f0) = 0
      ·rw [if_pos c10] at H
       have c10b0 : (((rd_T67 l0_1 x6_1).f0) == 0) = true := beq_iff_eq.mpr c10
       have c10b1 : (((rd_T67 l0_1 x6_1).f0) != 0) = false := bne_eq_false_iff_eq.mpr c10
       clear c10
       by_cases c11 : 0 ≤ ((rd_T67 l0_1 x6_1).f1)
       ·rw [if_pos c11] at H
        have c11b0 : decide (0 ≤ ((rd_T67 l0_1 x6_1).f1)) = true := decide_eq_true c11
        clear c11
        by_cases c12 : ((rd_T67 l0_1 x6_1).f1) < (x5_1.length : Int)
        ·rw [if_pos c12] at H
         have c12b0 : decide (((rd_T67 l0_1 x6_1).f1) < (x5_1.length : Int)) = true := decide_eq_true c12
         clear c12
         obtain ⟨y177, hy177⟩ : ∃ y_ : List Bool, y_ = (x5_1.set (((rd_T67 l0_1 x6_1).f1) : Int).toNat (!(rdOf false x5_1 ((rd_T67 l0_1 x6_1).f1)))) := ⟨_, rfl⟩
         replace H : (commodatumref12_Run.l0 k1 y177 (wrap64 (x6_1 + 1)) a0_0 l0_1) = some r := by first | (rw [hy177]; with_reducible exact H) | (have H2_ := (Option.bind_some _ _).symm.trans H; rw [hy177]; with_reducible exact H2_) | (have H2_ := (Option.bind_some _ _).symm.trans H; with_reducible exact H2_) | with_reducible exact H | (rw [hy177]; exact H) | exact H
         have Ny177 := aM hy177
         clear hy177
         have H' := aM H
         clear H
         have hcz14_0 : wr.cell? ⟨gb167, 0, none⟩ = some (.int .i64 a0_0) := (bE B67.out 0).trans rfl
         have hcz14_1 : wr.cell? ⟨gb167, 1, none⟩ = some (.slice A0_1 l0_1.length c0_1) := (bE B67.out 1).trans rfl
         have hfz14_0 := bF B67.out 0
         have hfz14_1 := bF B67.out 1
         have p174 : 0 ≤ (x6_1 : Int) := of_decide_eq_true (by assumption)
         have q174 : x6_1 < (l0_1.length : Int) := of_decide_eq_true (by assumption)
         obtain ⟨ad174, e174, hx174_0, hx174_1, hx174_2, hx174_3⟩ := at_T67 HR0_1.out x6_1 p174 q174
         cases e174
         replace hx174_0 := (HB.out.cell (World.block_lt_of_cell? w _ hx174_0)).trans hx174_0
         replace hx174_1 := (HB.out.cell (World.block_lt_of_cell? w _ hx174_1)).trans hx174_1
         replace hx174_2 := (HB.out.cell (World.block_lt_of_cell? w _ hx174_2)).trans hx174_2
         replace hx174_3 := (HB.out.cell (World.block_lt_of_cell? w _ hx174_3)).trans hx174_3
         replace p174 := eq_true p174
         replace q174 := eq_true q174
         try go_wp2_with (first | ((with_reducible refine gate_dst (N := 7) rfl ?_); refine box_event ?hg (N := 7) ?hd (cs := #[.int .i64 0, .int .i64 0, .int .i64 0, .int .i64 0]) (t := 67) ?hr ?_; (case hd => rfl); (case hg => rfl); (case hr => first | (go_simp; done) | (go_simp; rfl)); intro gb175 hg w15 hbox hb; replace HO_5 := aM (Kd.R_below (by (with_reducible repeat (first | apply rA | apply rB | apply rC)); exact HO_5.out) hb); have B75 := aM (hbox); have GW175 := aM ((by rw [hg]; exact (below_size (by repeat (first | (with_reducible first | exact HB.out | apply pA | apply pD | apply pE | refine sT ?_ GE167.out) | exact HB.out))) : w.heap.size ≤ gb175)); have GE175 := aM ((by rw [hg]; exact (below_size (by repeat (first | (with_reducible first | exact HB.out | apply pA | apply pD | apply pE | refine sT ?_ GE167.out) | exact HB.out))) : w.heap.size ≤ gb175)); replace HB := aM (below_step (by repeat (first | (with_reducible first | exact HB.out | apply pA | apply pD | apply pE | refine sT ?_ GE167.out) | exact HB.out)) hb); have NB167_175 := aM ((by rw [hg]; exact Nat.ne_of_lt (blk_lt (g := gb167) (o := .cells #[.int .i64 a0_0, .slice (some ad174) l0_1.length c0_1] 25 (0, 0)) (by (with_reducible repeat (first | refine bA ?_ _ | refine bB ?_ | refine bC ?_ _)); exact B67.out)) : gb167 ≠ gb175)); have NB175_167 := aM ((by rw [hg]; exact Nat.ne_of_gt (blk_lt (g := gb167) (o := .cells #[.int .i64 a0_0, .slice (some ad174) l0_1.length c0_1] 25 (0, 0)) (by (with_reducible repeat (first | refine bA ?_ _ | refine bB ?_ | refine bC ?_ _)); exact B67.out)) : gb175 ≠ gb167)); replace B67 := aM (blk_below (g := gb167) (o := .cells #[.int .i64 a0_0, .slice (some ad174) l0_1.length c0_1] 25 (0, 0)) (by (with_reducible repeat (first | refine bA ?_ _ | refine bB ?_ | refine bC ?_ _)); exact B67.out) hb); clear hb hbox hg; have hnb16 := NB175_167.out; have hnc16 := NB167_175.out; have hcz17_0 : w15.cell? ⟨gb175, 0, none⟩ = some (.int .i64 0) := (bE B75.out 0).trans rfl; have hcz17_1 : w15.cell? ⟨gb175, 1, none⟩ = some (.int .i64 0) := (bE B75.out 1).trans rfl; have hcz17_2 : w15.cell? ⟨gb175, 2, none⟩ = some (.int .i64 0) := (bE B75.out 2).trans rfl; have hcz17_3 : w15.cell? ⟨gb175, 3, none⟩ = some (.int .i64 0) := (bE B75.out 3).trans rfl; have hfz17_0 := bF B75.out 0; have hfz17_1 := bF B75.out 1; have hfz17_2 := bF B75.out 2; have hfz17_3 := bF B75.out 3))
         have n0_ : Aside0 (Kd.R Kd.bool 4 ((((w15.setCell ⟨gb175, 0, none⟩ (.int .i64 ((rd_T67 l0_1 x6_1).f0))).setCell ⟨gb175, 1, none⟩ (.int .i64 ((rd_T67 l0_1 x6_1).f1))).setCell ⟨gb175, 2, none⟩ (.int .i64 ((rd_T67 l0_1 x6_1).f2))).setCell ⟨gb175, 3, none⟩ (.int .i64 ((rd_T67 l0_1 x6_1).f3))) w.heap.size (fun _ => True) v172 x5_1) := ⟨by (with_reducible repeat (first | apply rA | apply rB | apply rC)); exact Kd.R_mono (Kd.R_far (p := ⟨gb175, 3, none⟩) (Kd.R_far (p := ⟨gb175, 2, none⟩) (Kd.R_far (p := ⟨gb175, 1, none⟩) (Kd.R_far (p := ⟨gb175, 0, none⟩) (Kd.R_types HO_5.out B75.out (by decide)) (fun _ hk => hk.2) (.int .i64 ((rd_T67 l0_1 x6_1).f0))) (fun _ hk => hk.2) (.int .i64 ((rd_T67 l0_1 x6_1).f1))) (fun _ hk => hk.2) (.int .i64 ((rd_T67 l0_1 x6_1).f2))) (fun _ hk => hk.2) (.int .i64 ((rd_T67 l0_1 x6_1).f3))) (fun _ hk => trivial)⟩
         have n1_ : Aside0 (((((w15.setCell ⟨gb175, 0, none⟩ (.int .i64 ((rd_T67 l0_1 x6_1).f0))).setCell ⟨gb175, 1, none⟩ (.int .i64 ((rd_T67 l0_1 x6_1).f1))).setCell ⟨gb175, 2, none⟩ (.int .i64 ((rd_T67 l0_1 x6_1).f2))).setCell ⟨gb175, 3, none⟩ (.int .i64 ((rd_T67 l0_1 x6_1).f3))).heap[gb167]? = some (.cells #[.int .i64 a0_0, .slice (some ad174) l0_1.length c0_1] 25 (0, 0))) := ⟨by (with_reducible repeat (first | refine bA ?_ _ | refine bB ?_ | refine bC ?_ _)); refine bG ?_ NB167_175.out _; (with_reducible repeat (first | refine bA ?_ _ | refine bB ?_ | refine bC ?_ _)); refine bG ?_ NB167_175.out _; (with_reducible repeat (first | refine bA ?_ _ | refine bB ?_ | refine bC ?_ _)); refine bG ?_ NB167_175.out _; (with_reducible repeat (first | refine bA ?_ _ | refine bB ?_ | refine bC ?_ _)); refine bG ?_ NB167_175.out _; (with_reducible repeat (first | refine bA ?_ _ | refine bB ?_ | refine bC ?_ _)); exact B67.out⟩
         have n2_ : Aside0 (((((w15.setCell ⟨gb175, 0, none⟩ (.int .i64 ((rd_T67 l0_1 x6_1).f0))).setCell ⟨gb175, 1, none⟩ (.int .i64 ((rd_T67 l0_1 x6_1).f1))).setCell ⟨gb175, 2, none⟩ (.int .i64 ((rd_T67 l0_1 x6_1).f2))).setCell ⟨gb175, 3, none⟩ (.int .i64 ((rd_T67 l0_1 x6_1).f3))).heap[gb175]? = some (.cells #[.int .i64 ((rd_T67 l0_1 x6_1).f0), .int .i64 ((rd_T67 l0_1 x6_1).f1), .int .i64 ((rd_T67 l0_1 x6_1).f2), .int .i64 ((rd_T67 l0_1 x6_1).f3)] 67 (0, 0))) := ⟨by (with_reducible repeat (first | refine bA ?_ _ | refine bB ?_ | refine bC ?_ _)); refine blk_put (cs := #[.int .i64 ((rd_T67 l0_1 x6_1).f0), .int .i64 ((rd_T67 l0_1 x6_1).f1), .int .i64 ((rd_T67 l0_1 x6_1).f2), .int .i64 0]) ?_ 3 _ rfl; (with_reducible repeat (first | refine bA ?_ _ | refine bB ?_ | refine bC ?_ _)); refine blk_put (cs := #[.int .i64 ((rd_T67 l0_1 x6_1).f0), .int .i64 ((rd_T67 l0_1 x6_1).f1), .int .i64 0, .int .i64 0]) ?_ 2 _ rfl; (with_reducible repeat (first | refine bA ?_ _ | refine bB ?_ | refine bC ?_ _)); refine blk_put (cs := #[.int .i64 ((rd_T67 l0_1 x6_1).f0), .int .i64 0, .int .i64 0, .int .i64 0]) ?_ 1 _ rfl; (with_reducible repeat (first | refine bA ?_ _ | refine bB ?_ | refine bC ?_ _)); refine blk_put (cs := #[.int .i64 0, .int .i64 0, .int .i64 0, .int .i64 0]) ?_ 0 _ rfl; (with_reducible repeat (first | refine bA ?_ _ | refine bB ?_ | refine bC ?_ _)); exact B75.out⟩
         have n3_ : Aside0 (Below w.heap.size w ((((w15.setCell ⟨gb175, 0, none⟩ (.int .i64 ((rd_T67 l0_1 x6_1).f0))).setCell ⟨gb175, 1, none⟩ (.int .i64 ((rd_T67 l0_1 x6_1).f1))).setCell ⟨gb175, 2, none⟩ (.int .i64 ((rd_T67 l0_1 x6_1).f2))).setCell ⟨gb175, 3, none⟩ (.int .i64 ((rd_T67 l0_1 x6_1).f3)))) := ⟨by repeat (first | (with_reducible first | exact HB.out | apply pA | apply pD | apply pE | refine sT ?_ GE167.out | refine sT ?_ GE175.out) | exact HB.out)⟩
         (try clear HO_5)
         (try clear B67)
         (try clear B75)
         (try clear HB)
         generalize ((((w15.setCell ⟨gb175, 0, none⟩ (.int .i64 ((rd_T67 l0_1 x6_1).f0))).setCell ⟨gb175, 1, none⟩ (.int .i64 ((rd_T67 l0_1 x6_1).f1))).setCell ⟨gb175, 2, none⟩ (.int .i64 ((rd_T67 l0_1 x6_1).f2))).setCell ⟨gb175, 3, none⟩ (.int .i64 ((rd_T67 l0_1 x6_1).f3))) = w18 at n0_ n1_ n2_ n3_ ⊢
         have HO_5 := n0_
         have B67 := n1_
         have B75 := n2_
         have HB := n3_
         clear n0_ n1_ n2_ n3_
         replace HO_5 := aM (rC HO_5.out)
         replace B67 := aM (bB B67.out)
         replace B75 := aM (bB B75.out)
         replace HB := aM (pE HB.out)
         obtain ⟨Ao20, co20, eo20⟩ := Kd.R_slice HO_5.out
         (first | subst eo20 | (injection eo20 with f1_ f2_ f3_; have f4_ := f1_.symm; have f5_ := f3_.symm; clear f1_ f2_ f3_; subst f4_; subst f5_))
         have p176 : 0 ≤ (((rd_T67 l0_1 x6_1).f1) : Int) := of_decide_eq_true (by assumption)
         have q176 : ((rd_T67 l0_1 x6_1).f1) < (x5_1.length : Int) := of_decide_eq_true (by assumption)
         obtain ⟨ad176, e176, hx176_0⟩ := Kd.at_bool (Kd.R_reads' HO_5.out).2.2 ((rd_T67 l0_1 x6_1).f1) p176 q176
         cases e176
         replace p176 := eq_true p176
         replace q176 := eq_true q176
         have p13 : 0 ≤ (((rd_T67 l0_1 x6_1).f1) : Int) := of_decide_eq_true (by assumption)
         have q13 : (((rd_T67 l0_1 x6_1).f1) : Int) < ((x5_1.length : Int) : Int) := of_decide_eq_true (by assumption)
         obtain ⟨go13, co13, eo13, gb13, gl13, cl13, HG13⟩ := Kd.R_form HO_5.out (by omega)
         (first | cases eo13 | (injection eo13 with ea_ en_ ec_; (first | subst ea_ | (injection ea_ with ea_; subst ea_)); subst ec_; clear en_))
         have GB13 := aM gb13
         have GG13 := aM HG13
         clear gb13 gl13 HG13
         (first | simp only [add_plain] at hx176_0 | skip)
         obtain ⟨hx13_0, hf13_0⟩ := Kd.R_celln false HO_5.out (((rd_T67 l0_1 x6_1).f1) : Int) p13 q13
         replace p13 := eq_true p13
         replace q13 := eq_true q13
         have HP21 := Kd.R_putn HO_5.out (((rd_T67 l0_1 x6_1).f1) : Int) (!(rdOf false x5_1 ((rd_T67 l0_1 x6_1).f1)))
         rw [← Ny177.out] at HP21
         have HQ21 := aM HP21
         clear HP21
         refine start_ (n := 11) (S := fun w' => w'.cell? ⟨gb175, 0, none⟩ = some (.int .i64 ((rd_T67 l0_1 x6_1).f0)) ∧ w'.cell? ⟨gb175, 1, none⟩ = some (.int .i64 ((rd_T67 l0_1 x6_1).f1)) ∧ w'.cell? ⟨gb175, 2, none⟩ = some (.int .i64 ((rd_T67 l0_1 x6_1).f2)) ∧ w'.cell? ⟨gb175, 3, none⟩ = some (.int .i64 ((rd_T67 l0_1 x6_1).f3)) ∧ w'.cell? ⟨go13, (((rd_T67 l0_1 x6_1).f1)).toNat, none⟩ = some (.bool (rdOf false x5_1 ((rd_T67 l0_1 x6_1).f1)))) (ds := [10]) z0a6 (by kernel_rfl) rfl rfl ⟨(bE B75.out 0).trans rfl, (bE B75.out 1).trans rfl, (bE B75.out 2).trans rfl, (bE B75.out 3).trans rfl, (by first | exact hx176_0 | simpa [Addr.add] using hx176_0)⟩ (fun hHeld => ?_); refine with_tabW commodatumref12_Run.tab8 commodatumref12_Run.bits8 (fun HT_ HW_ => ?_)
         generalize w18.drew = w19 at HO_5 B67 B75 HB GG13 HQ21 hf13_0 hx13_0 hx176_0 hHeld ⊢
         refine pure_ (i := 0) (N := some 28) (v := ?_) (a' := ?_) z1a6 rfl rfl (any_of HT_.out (by kernel_rfl)) (fun _ _ _ h => h) (Or.inl ⟨by rfl, ?_⟩) ?_ ?_; rotate_left; (intro w'; go_simp; with_reducible rfl); rotate_left; (simp only [Act.put, pSa6, i64_w]; rfl)
         refine pure_ (i := 1) (N := some 29) (v := ?_) (a' := ?_) z2a6 rfl rfl (any_of HT_.out (by kernel_rfl)) (fun _ _ _ h => h) (Or.inl ⟨by rfl, ?_⟩) ?_ ?_; rotate_left; (intro w'; go_simp; with_reducible rfl); rotate_left; (simp only [Act.put, pSa6, i64_w]; rfl)
         refine pure_ (i := 3) (N := some 31) (v := ?_) (a' := ?_) z3a6 rfl rfl (any_of HT_.out (by kernel_rfl)) (fun _ _ _ h => h) (Or.inl ⟨by rfl, ?_⟩) ?_ ?_; rotate_left; (intro w'; go_simp; with_reducible rfl); rotate_left; (simp only [Act.put, pSa6, i64_w]; rfl)
         refine pure_ (i := 4) (N := some 32) (v := ?_) (a' := ?_) z4a6 rfl rfl (any_of HT_.out (by kernel_rfl)) (fun _ _ _ h => h) (Or.inl ⟨by rfl, ?_⟩) ?_ ?_; rotate_left; (intro w'; go_simp; with_reducible rfl); rotate_left; (simp only [Act.put, pSa6, i64_w]; rfl)
         refine take_ (i := 2) (N := some 30) (v := ?_) (a' := ?_) z5a6 rfl rfl (take_ofW HT_.out HW_.out (by kernel_rfl)) (fun _ _ _ h => h) (Or.inl ⟨by rfl, ?_⟩) hHeld ?_ ?_; rotate_left; (rintro w' ⟨s0, s1, s2, s3, s4⟩; go_simp; with_reducible rfl); rotate_left; (simp only [Act.put, pSa6, i64_w]; rfl)
         refine take_ (i := 5) (N := some 33) (v := ?_) (a' := ?_) z6a6 rfl rfl (take_ofW HT_.out HW_.out (by kernel_rfl)) (fun _ _ _ h => h) (Or.inl ⟨by rfl, ?_⟩) hHeld ?_ ?_; rotate_left; (rintro w' ⟨s0, s1, s2, s3, s4⟩; go_simp; with_reducible rfl); rotate_left; (simp only [Act.put, pSa6, i64_w]; rfl)
         refine pure_ (i := 6) (N := some 34) (v := ?_) (a' := ?_) z7a6 rfl rfl (any_of HT_.out (by kernel_rfl)) (fun _ _ _ h => h) (Or.inl ⟨by rfl, ?_⟩) ?_ ?_; rotate_left; (intro w'; go_simp; with_reducible rfl); rotate_left; (simp only [Act.put, pSa6, i64_w]; rfl)
         refine take_ (i := 7) (N := some 35) (v := ?_) (a' := ?_) z8a6 rfl rfl (take_ofW HT_.out HW_.out (by kernel_rfl)) (fun _ _ _ h => h) (Or.inl ⟨by rfl, ?_⟩) hHeld ?_ ?_; rotate_left; (rintro w' ⟨s0, s1, s2, s3, s4⟩; go_simp; with_reducible rfl); rotate_left; (simp only [Act.put, pSa6, i64_w]; rfl)
         refine pure_ (i := 8) (N := some 36) (v := ?_) (a' := ?_) z9a6 rfl rfl (any_of HT_.out (by kernel_rfl)) (fun _ _ _ h => h) (Or.inl ⟨by rfl, ?_⟩) ?_ ?_; rotate_left; (intro w'; go_simp; with_reducible rfl); rotate_left; (simp only [Act.put, pSa6, i64_w]; rfl)
         refine pure_ (i := 9) (N := some 37) (v := ?_) (a' := ?_) z10a6 rfl rfl (any_of HT_.out (by kernel_rfl)) (fun _ _ _ h => h) (Or.inl ⟨by rfl, ?_⟩) ?_ ?_; rotate_left; (intro w'; go_simp; with_reducible rfl); rotate_left; (simp only [Act.put, pSa6, i64_w]; rfl)
         refine last_ (i := 10) (N := none) z11a6 rfl rfl (one_of HT_.out (by kernel_rfl)) (by decide) (fun K hK => ?_)
         refine skip_ (w1 := ?_) (by rfl) rfl ?_ ?_
         rotate_left
         ·go_simp
          rfl
         refine hK.out _ _ ?_
         clear hK K
         refine done_ (done_of HT_.out (by kernel_rfl)) ?_
         try go_wp2
         go_roundg k1
         case measure => have := HK1.out; omega
         case rel => exact ⟨(y177), (wrap64 (x6_1 + 1)), (by first | rfl | (simp; done) | (simp [*]; done)), H', ⟨by have := HK1.out; omega⟩, ⟨by (with_reducible repeat (first | apply rA | apply rB | apply rC)); exact HQ21.out⟩, ⟨by (with_reducible repeat (first | refine bA ?_ _ | refine bB ?_ | refine bC ?_ _)); refine bG ?_ (by have h_ := Kd.R_ne HO_5.out B67.out (by decide); intro e_; exact h_ (by rw [e_]; rfl)) _; (with_reducible repeat (first | refine bA ?_ _ | refine bB ?_ | refine bC ?_ _)); exact B67.out⟩, ⟨by repeat (first | (with_reducible first | exact HB.out | apply pA | apply pD | apply pE | refine sT ?_ GB13.out | refine sT ?_ GE167.out | refine sT ?_ GE175.out) | exact HB.out)⟩⟩
        ·rw [if_neg c12] at H
         exact absurd H (by simp)
       ·rw [if_neg c11] at H
        exact absurd H (by simp)
      ·rw [if_neg c10] at H
       have c10b0 : (((rd_T67 l0_1 x6_1).f0) == 0) = false := beq_eq_false_iff_ne.mpr c10
       have c10b1 : (((rd_T67 l0_1 x6_1).f0) != 0) = true := bne_iff_ne.mpr c10
       by_cases c22 : ((rd_T67 l0_1 x6_1).f0) = 1
       ·rw [if_pos c22] at H
        have c22b0 : (((rd_T67 l0_1 x6_1).f0) == 1) = true := beq_iff_eq.mpr c22
        have c22b1 : (((rd_T67 l0_1 x6_1).f0) != 1) = false := bne_eq_false_iff_eq.mpr c22
        clear c22
        by_cases c23 : 0 ≤ ((rd_T67 l0_1 x6_1).f1)
        ·rw [if_pos c23] at H
         have c23b0 : decide (0 ≤ ((rd_T67 l0_1 x6_1).f1)) = true := decide_eq_true c23
         clear c23
         by_cases c24 : ((rd_T67 l0_1 x6_1).f1) < (x5_1.length : Int)
         ·rw [if_pos c24] at H
          have c24b0 : decide (((rd_T67 l0_1 x6_1).f1) < (x5_1.length : Int)) = true := decide_eq_true c24
          clear c24
          by_cases c25 : 0 ≤ ((rd_T67 l0_1 x6_1).f2)
          ·rw [if_pos c25] at H
           have c25b0 : decide (0 ≤ ((rd_T67 l0_1 x6_1).f2)) = true := decide_eq_true c25
           clear c25
           by_cases c26 : ((rd_T67 l0_1 x6_1).f2) < (x5_1.length : Int)
           ·rw [if_pos c26] at H
            have c26b0 : decide (((rd_T67 l0_1 x6_1).f2) < (x5_1.length : Int)) = true := decide_eq_true c26
            clear c26
            obtain ⟨y180, hy180⟩ : ∃ y_ : List Bool, y_ = (x5_1.set (((rd_T67 l0_1 x6_1).f1) : Int).toNat ((rdOf false x5_1 ((rd_T67 l0_1 x6_1).f1)) != (rdOf false x5_1 ((rd_T67 l0_1 x6_1).f2)))) := ⟨_, rfl⟩
            replace H : (commodatumref12_Run.l0 k1 y180 (wrap64 (x6_1 + 1)) a0_0 l0_1) = some r := by first | (rw [hy180]; with_reducible exact H) | (have H2_ := (Option.bind_some _ _).symm.trans H; rw [hy180]; with_reducible exact H2_) | (have H2_ := (Option.bind_some _ _).symm.trans H; with_reducible exact H2_) | with_reducible exact H | (rw [hy180]; exact H) | exact H
            have Ny180 := aM hy180
            clear hy180
            have H' := aM H
            clear H
            have hcz28_0 : wr.cell? ⟨gb167, 0, none⟩ = some (.int .i64 a0_0) := (bE B67.out 0).trans rfl
            have hcz28_1 : wr.cell? ⟨gb167, 1, none⟩ = some (.slice A0_1 l0_1.length c0_1) := (bE B67.out 1).trans rfl
            have hfz28_0 := bF B67.out 0
            have hfz28_1 := bF B67.out 1
            have p174 : 0 ≤ (x6_1 : Int) := of_decide_eq_true (by assumption)
            have q174 : x6_1 < (l0_1.length : Int) := of_decide_eq_true (by assumption)
            obtain ⟨ad174, e174, hx174_0, hx174_1, hx174_2, hx174_3⟩ := at_T67 HR0_1.out x6_1 p174 q174
            cases e174
            replace hx174_0 := (HB.out.cell (World.block_lt_of_cell? w _ hx174_0)).trans hx174_0
            replace hx174_1 := (HB.out.cell (World.block_lt_of_cell? w _ hx174_1)).trans hx174_1
            replace hx174_2 := (HB.out.cell (World.block_lt_of_cell? w _ hx174_2)).trans hx174_2
            replace hx174_3 := (HB.out.cell (World.block_lt_of_cell? w _ hx174_3)).trans hx174_3
            replace p174 := eq_true p174
            replace q174 := eq_true q174
            try go_wp2_with (first | ((with_reducible refine gate_dst (N := 7) rfl ?_); refine box_event ?hg (N := 7) ?hd (cs := #[.int .i64 0, .int .i64 0, .int .i64 0, .int .i64 0]) (t := 67) ?hr ?_; (case hd => rfl); (case hg => rfl); (case hr => first | (go_simp; done) | (go_simp; rfl)); intro gb175 hg w29 hbox hb; replace HO_5 := aM (Kd.R_below (by (with_reducible repeat (first | apply rA | apply rB | apply rC)); exact HO_5.out) hb); have B75 := aM (hbox); have GW175 := aM ((by rw [hg]; exact (below_size (by repeat (first | (with_reducible first | exact HB.out | apply pA | apply pD | apply pE | refine sT ?_ GE167.out) | exact HB.out))) : w.heap.size ≤ gb175)); have GE175 := aM ((by rw [hg]; exact (below_size (by repeat (first | (with_reducible first | exact HB.out | apply pA | apply pD | apply pE | refine sT ?_ GE167.out) | exact HB.out))) : w.heap.size ≤ gb175)); replace HB := aM (below_step (by repeat (first | (with_reducible first | exact HB.out | apply pA | apply pD | apply pE | refine sT ?_ GE167.out) | exact HB.out)) hb); have NB167_175 := aM ((by rw [hg]; exact Nat.ne_of_lt (blk_lt (g := gb167) (o := .cells #[.int .i64 a0_0, .slice (some ad174) l0_1.length c0_1] 25 (0, 0)) (by (with_reducible repeat (first | refine bA ?_ _ | refine bB ?_ | refine bC ?_ _)); exact B67.out)) : gb167 ≠ gb175)); have NB175_167 := aM ((by rw [hg]; exact Nat.ne_of_gt (blk_lt (g := gb167) (o := .cells #[.int .i64 a0_0, .slice (some ad174) l0_1.length c0_1] 25 (0, 0)) (by (with_reducible repeat (first | refine bA ?_ _ | refine bB ?_ | refine bC ?_ _)); exact B67.out)) : gb175 ≠ gb167)); replace B67 := aM (blk_below (g := gb167) (o := .cells #[.int .i64 a0_0, .slice (some ad174) l0_1.length c0_1] 25 (0, 0)) (by (with_reducible repeat (first | refine bA ?_ _ | refine bB ?_ | refine bC ?_ _)); exact B67.out) hb); clear hb hbox hg; have hnb30 := NB175_167.out; have hnc30 := NB167_175.out; have hcz31_0 : w29.cell? ⟨gb175, 0, none⟩ = some (.int .i64 0) := (bE B75.out 0).trans rfl; have hcz31_1 : w29.cell? ⟨gb175, 1, none⟩ = some (.int .i64 0) := (bE B75.out 1).trans rfl; have hcz31_2 : w29.cell? ⟨gb175, 2, none⟩ = some (.int .i64 0) := (bE B75.out 2).trans rfl; have hcz31_3 : w29.cell? ⟨gb175, 3, none⟩ = some (.int .i64 0) := (bE B75.out 3).trans rfl; have hfz31_0 := bF B75.out 0; have hfz31_1 := bF B75.out 1; have hfz31_2 := bF B75.out 2; have hfz31_3 := bF B75.out 3))
            have n0_ : Aside0 (Kd.R Kd.bool 4 ((((w29.setCell ⟨gb175, 0, none⟩ (.int .i64 ((rd_T67 l0_1 x6_1).f0))).setCell ⟨gb175, 1, none⟩ (.int .i64 ((rd_T67 l0_1 x6_1).f1))).setCell ⟨gb175, 2, none⟩ (.int .i64 ((rd_T67 l0_1 x6_1).f2))).setCell ⟨gb175, 3, none⟩ (.int .i64 ((rd_T67 l0_1 x6_1).f3))) w.heap.size (fun _ => True) v172 x5_1) := ⟨by (with_reducible repeat (first | apply rA | apply rB | apply rC)); exact Kd.R_mono (Kd.R_far (p := ⟨gb175, 3, none⟩) (Kd.R_far (p := ⟨gb175, 2, none⟩) (Kd.R_far (p := ⟨gb175, 1, none⟩) (Kd.R_far (p := ⟨gb175, 0, none⟩) (Kd.R_types HO_5.out B75.out (by decide)) (fun _ hk => hk.2) (.int .i64 ((rd_T67 l0_1 x6_1).f0))) (fun _ hk => hk.2) (.int .i64 ((rd_T67 l0_1 x6_1).f1))) (fun _ hk => hk.2) (.int .i64 ((rd_T67 l0_1 x6_1).f2))) (fun _ hk => hk.2) (.int .i64 ((rd_T67 l0_1 x6_1).f3))) (fun _ hk => trivial)⟩
            have n1_ : Aside0 (((((w29.setCell ⟨gb175, 0, none⟩ (.int .i64 ((rd_T67 l0_1 x6_1).f0))).setCell ⟨gb175, 1, none⟩ (.int .i64 ((rd_T67 l0_1 x6_1).f1))).setCell ⟨gb175, 2, none⟩ (.int .i64 ((rd_T67 l0_1 x6_1).f2))).setCell ⟨gb175, 3, none⟩ (.int .i64 ((rd_T67 l0_1 x6_1).f3))).heap[gb167]? = some (.cells #[.int .i64 a0_0, .slice (some ad174) l0_1.length c0_1] 25 (0, 0))) := ⟨by (with_reducible repeat (first | refine bA ?_ _ | refine bB ?_ | refine bC ?_ _)); refine bG ?_ NB167_175.out _; (with_reducible repeat (first | refine bA ?_ _ | refine bB ?_ | refine bC ?_ _)); refine bG ?_ NB167_175.out _; (with_reducible repeat (first | refine bA ?_ _ | refine bB ?_ | refine bC ?_ _)); refine bG ?_ NB167_175.out _; (with_reducible repeat (first | refine bA ?_ _ | refine bB ?_ | refine bC ?_ _)); refine bG ?_ NB167_175.out _; (with_reducible repeat (first | refine bA ?_ _ | refine bB ?_ | refine bC ?_ _)); exact B67.out⟩
            have n2_ : Aside0 (((((w29.setCell ⟨gb175, 0, none⟩ (.int .i64 ((rd_T67 l0_1 x6_1).f0))).setCell ⟨gb175, 1, none⟩ (.int .i64 ((rd_T67 l0_1 x6_1).f1))).setCell ⟨gb175, 2, none⟩ (.int .i64 ((rd_T67 l0_1 x6_1).f2))).setCell ⟨gb175, 3, none⟩ (.int .i64 ((rd_T67 l0_1 x6_1).f3))).heap[gb175]? = some (.cells #[.int .i64 ((rd_T67 l0_1 x6_1).f0), .int .i64 ((rd_T67 l0_1 x6_1).f1), .int .i64 ((rd_T67 l0_1 x6_1).f2), .int .i64 ((rd_T67 l0_1 x6_1).f3)] 67 (0, 0))) := ⟨by (with_reducible repeat (first | refine bA ?_ _ | refine bB ?_ | refine bC ?_ _)); refine blk_put (cs := #[.int .i64 ((rd_T67 l0_1 x6_1).f0), .int .i64 ((rd_T67 l0_1 x6_1).f1), .int .i64 ((rd_T67 l0_1 x6_1).f2), .int .i64 0]) ?_ 3 _ rfl; (with_reducible repeat (first | refine bA ?_ _ | refine bB ?_ | refine bC ?_ _)); refine blk_put (cs := #[.int .i64 ((rd_T67 l0_1 x6_1).f0), .int .i64 ((rd_T67 l0_1 x6_1).f1), .int .i64 0, .int .i64 0]) ?_ 2 _ rfl; (with_reducible repeat (first | refine bA ?_ _ | refine bB ?_ | refine bC ?_ _)); refine blk_put (cs := #[.int .i64 ((rd_T67 l0_1 x6_1).f0), .int .i64 0, .int .i64 0, .int .i64 0]) ?_ 1 _ rfl; (with_reducible repeat (first | refine bA ?_ _ | refine bB ?_ | refine bC ?_ _)); refine blk_put (cs := #[.int .i64 0, .int .i64 0, .int .i64 0, .int .i64 0]) ?_ 0 _ rfl; (with_reducible repeat (first | refine bA ?_ _ | refine bB ?_ | refine bC ?_ _)); exact B75.out⟩
            have n3_ : Aside0 (Below w.heap.size w ((((w29.setCell ⟨gb175, 0, none⟩ (.int .i64 ((rd_T67 l0_1 x6_1).f0))).setCell ⟨gb175, 1, none⟩ (.int .i64 ((rd_T67 l0_1 x6_1).f1))).setCell ⟨gb175, 2, none⟩ (.int .i64 ((rd_T67 l0_1 x6_1).f2))).setCell ⟨gb175, 3, none⟩ (.int .i64 ((rd_T67 l0_1 x6_1).f3)))) := ⟨by repeat (first | (with_reducible first | exact HB.out | apply pA | apply pD | apply pE | refine sT ?_ GE167.out | refine sT ?_ GE175.out) | exact HB.out)⟩
            (try clear HO_5)
            (try clear B67)
            (try clear B75)
            (try clear HB)
            generalize ((((w29.setCell ⟨gb175, 0, none⟩ (.int .i64 ((rd_T67 l0_1 x6_1).f0))).setCell ⟨gb175, 1, none⟩ (.int .i64 ((rd_T67 l0_1 x6_1).f1))).setCell ⟨gb175, 2, none⟩ (.int .i64 ((rd_T67 l0_1 x6_1).f2))).setCell ⟨gb175, 3, none⟩ (.int .i64 ((rd_T67 l0_1 x6_1).f3))) = w32 at n0_ n1_ n2_ n3_ ⊢
            have HO_5 := n0_
            have B67 := n1_
            have B75 := n2_
            have HB := n3_
            clear n0_ n1_ n2_ n3_
            replace HO_5 := aM (rC HO_5.out)
            replace B67 := aM (bB B67.out)
            replace B75 := aM (bB B75.out)
            replace HB := aM (pE HB.out)
            obtain ⟨Ao34, co34, eo34⟩ := Kd.R_slice HO_5.out
            (first | subst eo34 | (injection eo34 with f1_ f2_ f3_; have f4_ := f1_.symm; have f5_ := f3_.symm; clear f1_ f2_ f3_; subst f4_; subst f5_))
            have p178 : 0 ≤ (((rd_T67 l0_1 x6_1).f1) : Int) := of_decide_eq_true (by assumption)
            have q178 : ((rd_T67 l0_1 x6_1).f1) < (x5_1.length : Int) := of_decide_eq_true (by assumption)
            obtain ⟨ad178, e178, hx178_0⟩ := Kd.at_bool (Kd.R_reads' HO_5.out).2.2 ((rd_T67 l0_1 x6_1).f1) p178 q178
            cases e178
            replace p178 := eq_true p178
            replace q178 := eq_true q178
            have p179 : 0 ≤ (((rd_T67 l0_1 x6_1).f2) : Int) := of_decide_eq_true (by assumption)
            have q179 : ((rd_T67 l0_1 x6_1).f2) < (x5_1.length : Int) := of_decide_eq_true (by assumption)
            obtain ⟨ad179, e179, hx179_0⟩ := Kd.at_bool (Kd.R_reads' HO_5.out).2.2 ((rd_T67 l0_1 x6_1).f2) p179 q179
            obtain rfl : ad178 = ad179 := (by injection e179)
            replace p179 := eq_true p179
            replace q179 := eq_true q179
            have p27 : 0 ≤ (((rd_T67 l0_1 x6_1).f1) : Int) := of_decide_eq_true (by assumption)
            have q27 : (((rd_T67 l0_1 x6_1).f1) : Int) < ((x5_1.length : Int) : Int) := of_decide_eq_true (by assumption)
            obtain ⟨go27, co27, eo27, gb27, gl27, cl27, HG27⟩ := Kd.R_form HO_5.out (by omega)
            (first | cases eo27 | (injection eo27 with ea_ en_ ec_; (first | subst ea_ | (injection ea_ with ea_; subst ea_)); subst ec_; clear en_))
            have GB27 := aM gb27
            have GG27 := aM HG27
            clear gb27 gl27 HG27
            (first | simp only [add_plain] at hx178_0 | skip)
            (first | simp only [add_plain] at hx179_0 | skip)
            obtain ⟨hx27_0, hf27_0⟩ := Kd.R_celln false HO_5.out (((rd_T67 l0_1 x6_1).f1) : Int) p27 q27
            replace p27 := eq_true p27
            replace q27 := eq_true q27
            have HP35 := Kd.R_putn HO_5.out (((rd_T67 l0_1 x6_1).f1) : Int) ((rdOf false x5_1 ((rd_T67 l0_1 x6_1).f1)) != (rdOf false x5_1 ((rd_T67 l0_1 x6_1).f2)))
            rw [← Ny180.out] at HP35
            have HQ35 := aM HP35
            clear HP35
            refine start_ (n := 16) (S := fun w' => w'.cell? ⟨gb175, 0, none⟩ = some (.int .i64 ((rd_T67 l0_1 x6_1).f0)) ∧ w'.cell? ⟨gb175, 1, none⟩ = some (.int .i64 ((rd_T67 l0_1 x6_1).f1)) ∧ w'.cell? ⟨gb175, 2, none⟩ = some (.int .i64 ((rd_T67 l0_1 x6_1).f2)) ∧ w'.cell? ⟨gb175, 3, none⟩ = some (.int .i64 ((rd_T67 l0_1 x6_1).f3)) ∧ w'.cell? ⟨go27, (((rd_T67 l0_1 x6_1).f1)).toNat, none⟩ = some (.bool (rdOf false x5_1 ((rd_T67 l0_1 x6_1).f1))) ∧ w'.cell? ⟨go27, (((rd_T67 l0_1 x6_1).f2)).toNat, none⟩ = some (.bool (rdOf false x5_1 ((rd_T67 l0_1 x6_1).f2)))) (ds := [15]) z12a6 (by kernel_rfl) rfl rfl ⟨(bE B75.out 0).trans rfl, (bE B75.out 1).trans rfl, (bE B75.out 2).trans rfl, (bE B75.out 3).trans rfl, (by first | exact hx178_0 | simpa [Addr.add] using hx178_0), hx179_0⟩ (fun hHeld => ?_); refine with_tabW commodatumref12_Run.tab10 commodatumref12_Run.bits10 (fun HT_ HW_ => ?_)
            generalize w32.drew = w33 at HO_5 B67 B75 HB GG27 HQ35 hf27_0 hx178_0 hx179_0 hx27_0 hHeld ⊢
            refine pure_ (i := 0) (N := some 40) (v := ?_) (a' := ?_) z13a6 rfl rfl (any_of HT_.out (by kernel_rfl)) (fun _ _ _ h => h) (Or.inl ⟨by rfl, ?_⟩) ?_ ?_; rotate_left; (intro w'; go_simp; with_reducible rfl); rotate_left; (simp only [Act.put, pSa6, i64_w]; rfl)
            refine pure_ (i := 1) (N := some 41) (v := ?_) (a' := ?_) z14a6 rfl rfl (any_of HT_.out (by kernel_rfl)) (fun _ _ _ h => h) (Or.inl ⟨by rfl, ?_⟩) ?_ ?_; rotate_left; (intro w'; go_simp; with_reducible rfl); rotate_left; (simp only [Act.put, pSa6, i64_w]; rfl)
            refine pure_ (i := 3) (N := some 43) (v := ?_) (a' := ?_) z15a6 rfl rfl (any_of HT_.out (by kernel_rfl)) (fun _ _ _ h => h) (Or.inl ⟨by rfl, ?_⟩) ?_ ?_; rotate_left; (intro w'; go_simp; with_reducible rfl); rotate_left; (simp only [Act.put, pSa6, i64_w]; rfl)
            refine pure_ (i := 4) (N := some 44) (v := ?_) (a' := ?_) z16a6 rfl rfl (any_of HT_.out (by kernel_rfl)) (fun _ _ _ h => h) (Or.inl ⟨by rfl, ?_⟩) ?_ ?_; rotate_left; (intro w'; go_simp; with_reducible rfl); rotate_left; (simp only [Act.put, pSa6, i64_w]; rfl)
            refine pure_ (i := 8) (N := some 48) (v := ?_) (a' := ?_) z17a6 rfl rfl (any_of HT_.out (by kernel_rfl)) (fun _ _ _ h => h) (Or.inl ⟨by rfl, ?_⟩) ?_ ?_; rotate_left; (intro w'; go_simp; with_reducible rfl); rotate_left; (simp only [Act.put, pSa6, i64_w]; rfl)
            refine pure_ (i := 9) (N := some 49) (v := ?_) (a' := ?_) z18a6 rfl rfl (any_of HT_.out (by kernel_rfl)) (fun _ _ _ h => h) (Or.inl ⟨by rfl, ?_⟩) ?_ ?_; rotate_left; (intro w'; go_simp; with_reducible rfl); rotate_left; (simp only [Act.put, pSa6, i64_w]; rfl)
            refine take_ (i := 2) (N := some 42) (v := ?_) (a' := ?_) z19a6 rfl rfl (take_ofW HT_.out HW_.out (by kernel_rfl)) (fun _ _ _ h => h) (Or.inl ⟨by rfl, ?_⟩) hHeld ?_ ?_; rotate_left; (rintro w' ⟨s0, s1, s2, s3, s4, s5⟩; go_simp; with_reducible rfl); rotate_left; (simp only [Act.put, pSa6, i64_w]; rfl)
            refine take_ (i := 5) (N := some 45) (v := ?_) (a' := ?_) z20a6 rfl rfl (take_ofW HT_.out HW_.out (by kernel_rfl)) (fun _ _ _ h => h) (Or.inl ⟨by rfl, ?_⟩) hHeld ?_ ?_; rotate_left; (rintro w' ⟨s0, s1, s2, s3, s4, s5⟩; go_simp; with_reducible rfl); rotate_left; (simp only [Act.put, pSa6, i64_w]; rfl)
            refine pure_ (i := 6) (N := some 46) (v := ?_) (a' := ?_) z21a6 rfl rfl (any_of HT_.out (by kernel_rfl)) (fun _ _ _ h => h) (Or.inl ⟨by rfl, ?_⟩) ?_ ?_; rotate_left; (intro w'; go_simp; with_reducible rfl); rotate_left; (simp only [Act.put, pSa6, i64_w]; rfl)
            refine take_ (i := 7) (N := some 47) (v := ?_) (a' := ?_) z22a6 rfl rfl (take_ofW HT_.out HW_.out (by kernel_rfl)) (fun _ _ _ h => h) (Or.inl ⟨by rfl, ?_⟩) hHeld ?_ ?_; rotate_left; (rintro w' ⟨s0, s1, s2, s3, s4, s5⟩; go_simp; with_reducible rfl); rotate_left; (simp only [Act.put, pSa6, i64_w]; rfl)
            refine take_ (i := 10) (N := some 50) (v := ?_) (a' := ?_) z23a6 rfl rfl (take_ofW HT_.out HW_.out (by kernel_rfl)) (fun _ _ _ h => h) (Or.inl ⟨by rfl, ?_⟩) hHeld ?_ ?_; rotate_left; (rintro w' ⟨s0, s1, s2, s3, s4, s5⟩; go_simp; with_reducible rfl); rotate_left; (simp only [Act.put, pSa6, i64_w]; rfl)
            refine pure_ (i := 11) (N := some 51) (v := ?_) (a' := ?_) z24a6 rfl rfl (any_of HT_.out (by kernel_rfl)) (fun _ _ _ h => h) (Or.inl ⟨by rfl, ?_⟩) ?_ ?_; rotate_left; (intro w'; go_simp; with_reducible rfl); rotate_left; (simp only [Act.put, pSa6, i64_w]; rfl)
            refine take_ (i := 12) (N := some 52) (v := ?_) (a' := ?_) z25a6 rfl rfl (take_ofW HT_.out HW_.out (by kernel_rfl)) (fun _ _ _ h => h) (Or.inl ⟨by rfl, ?_⟩) hHeld ?_ ?_; rotate_left; (rintro w' ⟨s0, s1, s2, s3, s4, s5⟩; go_simp; with_reducible rfl); rotate_left; (simp only [Act.put, pSa6, i64_w]; rfl)
            refine pure_ (i := 13) (N := some 53) (v := ?_) (a' := ?_) z26a6 rfl rfl (any_of HT_.out (by kernel_rfl)) (fun _ _ _ h => h) (Or.inl ⟨by rfl, ?_⟩) ?_ ?_; rotate_left; (intro w'; go_simp; with_reducible rfl); rotate_left; (simp only [Act.put, pSa6, i64_w]; rfl)
            refine pure_ (i := 14) (N := some 54) (v := ?_) (a' := ?_) z27a6 rfl rfl (any_of HT_.out (by kernel_rfl)) (fun _ _ _ h => h) (Or.inl ⟨by rfl, ?_⟩) ?_ ?_; rotate_left; (intro w'; go_simp; with_reducible rfl); rotate_left; (simp only [Act.put, pSa6, i64_w]; rfl)
            refine last_ (i := 15) (N := none) z28a6 rfl rfl (one_of HT_.out (by kernel_rfl)) (by decide) (fun K hK => ?_)
            refine skip_ (w1 := ?_) (by rfl) rfl ?_ ?_
            rotate_left
            ·go_simp
             rfl
            refine hK.out _ _ ?_
            clear hK K
            refine done_ (done_of HT_.out (by kernel_rfl)) ?_
            try go_wp2
            go_roundg k1
            case measure => have := HK1.out; omega
            case rel => exact ⟨(y180), (wrap64 (x6_1 + 1)), (by first | rfl | (simp; done) | (simp [*]; done)), H', ⟨by have := HK1.out; omega⟩, ⟨by (with_reducible repeat (first | apply rA | apply rB | apply rC)); exact HQ35.out⟩, ⟨by (with_reducible repeat (first | refine bA ?_ _ | refine bB ?_ | refine bC ?_ _)); refine bG ?_ (by have h_ := Kd.R_ne HO_5.out B67.out (by decide); intro e_; exact h_ (by rw [e_]; rfl)) _; (with_reducible repeat (first | refine bA ?_ _ | refine bB ?_ | refine bC ?_ _)); exact B67.out⟩, ⟨by repeat (first | (with_reducible first | exact HB.out | apply pA | apply pD | apply pE | refine sT ?_ GB27.out | refine sT ?_ GE167.out | refine sT ?_ GE175.out) | exact HB.out)⟩⟩
           ·rw [if_neg c26] at H
            exact absurd H (by simp)
          ·rw [if_neg c25] at H
           exact absurd H (by simp)
         ·rw [if_neg c24] at H
          exact absurd H (by simp)
        ·rw [if_neg c23] at H
         exact absurd H (by simp)
       ·rw [if_neg c22] at H
        have c22b0 : (((rd_T67 l0_1 x6_1).f0) == 1) = false := beq_eq_false_iff_ne.mpr c22
        have c22b1 : (((rd_T67 l0_1 x6_1).f0) != 1) = true := bne_iff_ne.mpr c22
        by_cases c36 : ((rd_T67 l0_1 x6_1).f0) = 2
        ·rw [if_pos c36] at H
         have c36b0 : (((rd_T67 l0_1 x6_1).f0) == 2) = true := beq_iff_eq.mpr c36
         have c36b1 : (((rd_T67 l0_1 x6_1).f0) != 2) = false := bne_eq_false_iff_eq.mpr c36
         clear c36
         by_cases c37 : 0 ≤ ((rd_T67 l0_1 x6_1).f1)
         ·rw [if_pos c37] at H
          have c37b0 : decide (0 ≤ ((rd_T67 l0_1 x6_1).f1)) = true := decide_eq_true c37
          clear c37
          by_cases c38 : ((rd_T67 l0_1 x6_1).f1) < (x5_1.length : Int)
          ·rw [if_pos c38] at H
           have c38b0 : decide (((rd_T67 l0_1 x6_1).f1) < (x5_1.length : Int)) = true := decide_eq_true c38
           clear c38
           by_cases c39 : 0 ≤ ((rd_T67 l0_1 x6_1).f2)
           ·rw [if_pos c39] at H
            have c39b0 : decide (0 ≤ ((rd_T67 l0_1 x6_1).f2)) = true := decide_eq_true c39
            clear c39
            by_cases c40 : ((rd_T67 l0_1 x6_1).f2) < (x5_1.length : Int)
            ·rw [if_pos c40] at H
             have c40b0 : decide (((rd_T67 l0_1 x6_1).f2) < (x5_1.length : Int)) = true := decide_eq_true c40
             clear c40
             obtain ⟨bq41, hbq41⟩ : ∃ b_ : Bool, b_ = (rdOf false x5_1 ((rd_T67 l0_1 x6_1).f2)) := ⟨_, rfl⟩
             replace H : (if bq41 = true then (if 0 ≤ ((rd_T67 l0_1 x6_1).f3) then (if ((rd_T67 l0_1 x6_1).f3) < (x5_1.length : Int) then (commodatumref12_Run.l0 k1 (x5_1.set (((rd_T67 l0_1 x6_1).f1) : Int).toNat ((rdOf false x5_1 ((rd_T67 l0_1 x6_1).f1)) != (rdOf false x5_1 ((rd_T67 l0_1 x6_1).f3)))) (wrap64 (x6_1 + 1)) a0_0 l0_1) else (none)) else (none)) else (commodatumref12_Run.l0 k1 (x5_1.set (((rd_T67 l0_1 x6_1).f1) : Int).toNat ((rdOf false x5_1 ((rd_T67 l0_1 x6_1).f1)) != false)) (wrap64 (x6_1 + 1)) a0_0 l0_1)) = some r := by rw [← hbq41] at H; exact H
             have Nbq41 := aM hbq41
             clear hbq41
             by_cases c42 : bq41 = true
             ·subst c42
              have H1 : (if 0 ≤ ((rd_T67 l0_1 x6_1).f3) then (if ((rd_T67 l0_1 x6_1).f3) < (x5_1.length : Int) then (commodatumref12_Run.l0 k1 (x5_1.set (((rd_T67 l0_1 x6_1).f1) : Int).toNat ((rdOf false x5_1 ((rd_T67 l0_1 x6_1).f1)) != (rdOf false x5_1 ((rd_T67 l0_1 x6_1).f3)))) (wrap64 (x6_1 + 1)) a0_0 l0_1) else (none)) else (none)) = some r := by rw [if_pos rfl] at H; exact H
              clear H
              have H := H1
              clear H1
              by_cases c43 : 0 ≤ ((rd_T67 l0_1 x6_1).f3)
              ·rw [if_pos c43] at H
               have c43b0 : decide (0 ≤ ((rd_T67 l0_1 x6_1).f3)) = true := decide_eq_true c43
               clear c43
               by_cases c44 : ((rd_T67 l0_1 x6_1).f3) < (x5_1.length : Int)
               ·rw [if_pos c44] at H
                have c44b0 : decide (((rd_T67 l0_1 x6_1).f3) < (x5_1.length : Int)) = true := decide_eq_true c44
                clear c44
                obtain ⟨y184, hy184⟩ : ∃ y_ : List Bool, y_ = (x5_1.set (((rd_T67 l0_1 x6_1).f1) : Int).toNat ((rdOf false x5_1 ((rd_T67 l0_1 x6_1).f1)) != (rdOf false x5_1 ((rd_T67 l0_1 x6_1).f3)))) := ⟨_, rfl⟩
                replace H : (commodatumref12_Run.l0 k1 y184 (wrap64 (x6_1 + 1)) a0_0 l0_1) = some r := by first | (rw [hy184]; with_reducible exact H) | (have H2_ := (Option.bind_some _ _).symm.trans H; rw [hy184]; with_reducible exact H2_) | (have H2_ := (Option.bind_some _ _).symm.trans H; with_reducible exact H2_) | with_reducible exact H | (rw [hy184]; exact H) | exact H
                have Ny184 := aM hy184
                clear hy184
                have H' := aM H
                clear H
                have hcz46_0 : wr.cell? ⟨gb167, 0, none⟩ = some (.int .i64 a0_0) := (bE B67.out 0).trans rfl
                have hcz46_1 : wr.cell? ⟨gb167, 1, none⟩ = some (.slice A0_1 l0_1.length c0_1) := (bE B67.out 1).trans rfl
                have hfz46_0 := bF B67.out 0
                have hfz46_1 := bF B67.out 1
                have p174 : 0 ≤ (x6_1 : Int) := of_decide_eq_true (by assumption)
                have q174 : x6_1 < (l0_1.length : Int) := of_decide_eq_true (by assumption)
                obtain ⟨ad174, e174, hx174_0, hx174_1, hx174_2, hx174_3⟩ := at_T67 HR0_1.out x6_1 p174 q174
                cases e174
                replace hx174_0 := (HB.out.cell (World.block_lt_of_cell? w _ hx174_0)).trans hx174_0
                replace hx174_1 := (HB.out.cell (World.block_lt_of_cell? w _ hx174_1)).trans hx174_1
                replace hx174_2 := (HB.out.cell (World.block_lt_of_cell? w _ hx174_2)).trans hx174_2
                replace hx174_3 := (HB.out.cell (World.block_lt_of_cell? w _ hx174_3)).trans hx174_3
                replace p174 := eq_true p174
                replace q174 := eq_true q174
                try go_wp2_with (first | ((with_reducible refine gate_dst (N := 7) rfl ?_); refine box_event ?hg (N := 7) ?hd (cs := #[.int .i64 0, .int .i64 0, .int .i64 0, .int .i64 0]) (t := 67) ?hr ?_; (case hd => rfl); (case hg => rfl); (case hr => first | (go_simp; done) | (go_simp; rfl)); intro gb175 hg w47 hbox hb; replace HO_5 := aM (Kd.R_below (by (with_reducible repeat (first | apply rA | apply rB | apply rC)); exact HO_5.out) hb); have B75 := aM (hbox); have GW175 := aM ((by rw [hg]; exact (below_size (by repeat (first | (with_reducible first | exact HB.out | apply pA | apply pD | apply pE | refine sT ?_ GE167.out) | exact HB.out))) : w.heap.size ≤ gb175)); have GE175 := aM ((by rw [hg]; exact (below_size (by repeat (first | (with_reducible first | exact HB.out | apply pA | apply pD | apply pE | refine sT ?_ GE167.out) | exact HB.out))) : w.heap.size ≤ gb175)); replace HB := aM (below_step (by repeat (first | (with_reducible first | exact HB.out | apply pA | apply pD | apply pE | refine sT ?_ GE167.out) | exact HB.out)) hb); have NB167_175 := aM ((by rw [hg]; exact Nat.ne_of_lt (blk_lt (g := gb167) (o := .cells #[.int .i64 a0_0, .slice (some ad174) l0_1.length c0_1] 25 (0, 0)) (by (with_reducible repeat (first | refine bA ?_ _ | refine bB ?_ | refine bC ?_ _)); exact B67.out)) : gb167 ≠ gb175)); have NB175_167 := aM ((by rw [hg]; exact Nat.ne_of_gt (blk_lt (g := gb167) (o := .cells #[.int .i64 a0_0, .slice (some ad174) l0_1.length c0_1] 25 (0, 0)) (by (with_reducible repeat (first | refine bA ?_ _ | refine bB ?_ | refine bC ?_ _)); exact B67.out)) : gb175 ≠ gb167)); replace B67 := aM (blk_below (g := gb167) (o := .cells #[.int .i64 a0_0, .slice (some ad174) l0_1.length c0_1] 25 (0, 0)) (by (with_reducible repeat (first | refine bA ?_ _ | refine bB ?_ | refine bC ?_ _)); exact B67.out) hb); clear hb hbox hg; have hnb48 := NB175_167.out; have hnc48 := NB167_175.out; have hcz49_0 : w47.cell? ⟨gb175, 0, none⟩ = some (.int .i64 0) := (bE B75.out 0).trans rfl; have hcz49_1 : w47.cell? ⟨gb175, 1, none⟩ = some (.int .i64 0) := (bE B75.out 1).trans rfl; have hcz49_2 : w47.cell? ⟨gb175, 2, none⟩ = some (.int .i64 0) := (bE B75.out 2).trans rfl; have hcz49_3 : w47.cell? ⟨gb175, 3, none⟩ = some (.int .i64 0) := (bE B75.out 3).trans rfl; have hfz49_0 := bF B75.out 0; have hfz49_1 := bF B75.out 1; have hfz49_2 := bF B75.out 2; have hfz49_3 := bF B75.out 3))
                have n0_ : Aside0 (Kd.R Kd.bool 4 ((((w47.setCell ⟨gb175, 0, none⟩ (.int .i64 ((rd_T67 l0_1 x6_1).f0))).setCell ⟨gb175, 1, none⟩ (.int .i64 ((rd_T67 l0_1 x6_1).f1))).setCell ⟨gb175, 2, none⟩ (.int .i64 ((rd_T67 l0_1 x6_1).f2))).setCell ⟨gb175, 3, none⟩ (.int .i64 ((rd_T67 l0_1 x6_1).f3))) w.heap.size (fun _ => True) v172 x5_1) := ⟨by (with_reducible repeat (first | apply rA | apply rB | apply rC)); exact Kd.R_mono (Kd.R_far (p := ⟨gb175, 3, none⟩) (Kd.R_far (p := ⟨gb175, 2, none⟩) (Kd.R_far (p := ⟨gb175, 1, none⟩) (Kd.R_far (p := ⟨gb175, 0, none⟩) (Kd.R_types HO_5.out B75.out (by decide)) (fun _ hk => hk.2) (.int .i64 ((rd_T67 l0_1 x6_1).f0))) (fun _ hk => hk.2) (.int .i64 ((rd_T67 l0_1 x6_1).f1))) (fun _ hk => hk.2) (.int .i64 ((rd_T67 l0_1 x6_1).f2))) (fun _ hk => hk.2) (.int .i64 ((rd_T67 l0_1 x6_1).f3))) (fun _ hk => trivial)⟩
                have n1_ : Aside0 (((((w47.setCell ⟨gb175, 0, none⟩ (.int .i64 ((rd_T67 l0_1 x6_1).f0))).setCell ⟨gb175, 1, none⟩ (.int .i64 ((rd_T67 l0_1 x6_1).f1))).setCell ⟨gb175, 2, none⟩ (.int .i64 ((rd_T67 l0_1 x6_1).f2))).setCell ⟨gb175, 3, none⟩ (.int .i64 ((rd_T67 l0_1 x6_1).f3))).heap[gb167]? = some (.cells #[.int .i64 a0_0, .slice (some ad174) l0_1.length c0_1] 25 (0, 0))) := ⟨by (with_reducible repeat (first | refine bA ?_ _ | refine bB ?_ | refine bC ?_ _)); refine bG ?_ NB167_175.out _; (with_reducible repeat (first | refine bA ?_ _ | refine bB ?_ | refine bC ?_ _)); refine bG ?_ NB167_175.out _; (with_reducible repeat (first | refine bA ?_ _ | refine bB ?_ | refine bC ?_ _)); refine bG ?_ NB167_175.out _; (with_reducible repeat (first | refine bA ?_ _ | refine bB ?_ | refine bC ?_ _)); refine bG ?_ NB167_175.out _; (with_reducible repeat (first | refine bA ?_ _ | refine bB ?_ | refine bC ?_ _)); exact B67.out⟩
                have n2_ : Aside0 (((((w47.setCell ⟨gb175, 0, none⟩ (.int .i64 ((rd_T67 l0_1 x6_1).f0))).setCell ⟨gb175, 1, none⟩ (.int .i64 ((rd_T67 l0_1 x6_1).f1))).setCell ⟨gb175, 2, none⟩ (.int .i64 ((rd_T67 l0_1 x6_1).f2))).setCell ⟨gb175, 3, none⟩ (.int .i64 ((rd_T67 l0_1 x6_1).f3))).heap[gb175]? = some (.cells #[.int .i64 ((rd_T67 l0_1 x6_1).f0), .int .i64 ((rd_T67 l0_1 x6_1).f1), .int .i64 ((rd_T67 l0_1 x6_1).f2), .int .i64 ((rd_T67 l0_1 x6_1).f3)] 67 (0, 0))) := ⟨by (with_reducible repeat (first | refine bA ?_ _ | refine bB ?_ | refine bC ?_ _)); refine blk_put (cs := #[.int .i64 ((rd_T67 l0_1 x6_1).f0), .int .i64 ((rd_T67 l0_1 x6_1).f1), .int .i64 ((rd_T67 l0_1 x6_1).f2), .int .i64 0]) ?_ 3 _ rfl; (with_reducible repeat (first | refine bA ?_ _ | refine bB ?_ | refine bC ?_ _)); refine blk_put (cs := #[.int .i64 ((rd_T67 l0_1 x6_1).f0), .int .i64 ((rd_T67 l0_1 x6_1).f1), .int .i64 0, .int .i64 0]) ?_ 2 _ rfl; (with_reducible repeat (first | refine bA ?_ _ | refine bB ?_ | refine bC ?_ _)); refine blk_put (cs := #[.int .i64 ((rd_T67 l0_1 x6_1).f0), .int .i64 0, .int .i64 0, .int .i64 0]) ?_ 1 _ rfl; (with_reducible repeat (first | refine bA ?_ _ | refine bB ?_ | refine bC ?_ _)); refine blk_put (cs := #[.int .i64 0, .int .i64 0, .int .i64 0, .int .i64 0]) ?_ 0 _ rfl; (with_reducible repeat (first | refine bA ?_ _ | refine bB ?_ | refine bC ?_ _)); exact B75.out⟩
                have n3_ : Aside0 (Below w.heap.size w ((((w47.setCell ⟨gb175, 0, none⟩ (.int .i64 ((rd_T67 l0_1 x6_1).f0))).setCell ⟨gb175, 1, none⟩ (.int .i64 ((rd_T67 l0_1 x6_1).f1))).setCell ⟨gb175, 2, none⟩ (.int .i64 ((rd_T67 l0_1 x6_1).f2))).setCell ⟨gb175, 3, none⟩ (.int .i64 ((rd_T67 l0_1 x6_1).f3)))) := ⟨by repeat (first | (with_reducible first | exact HB.out | apply pA | apply pD | apply pE | refine sT ?_ GE167.out | refine sT ?_ GE175.out) | exact HB.out)⟩
                (try clear HO_5)
                (try clear B67)
                (try clear B75)
                (try clear HB)
                generalize ((((w47.setCell ⟨gb175, 0, none⟩ (.int .i64 ((rd_T67 l0_1 x6_1).f0))).setCell ⟨gb175, 1, none⟩ (.int .i64 ((rd_T67 l0_1 x6_1).f1))).setCell ⟨gb175, 2, none⟩ (.int .i64 ((rd_T67 l0_1 x6_1).f2))).setCell ⟨gb175, 3, none⟩ (.int .i64 ((rd_T67 l0_1 x6_1).f3))) = w50 at n0_ n1_ n2_ n3_ ⊢
                have HO_5 := n0_
                have B67 := n1_
                have B75 := n2_
                have HB := n3_
                clear n0_ n1_ n2_ n3_
                replace HO_5 := aM (rC HO_5.out)
                replace B67 := aM (bB B67.out)
                replace B75 := aM (bB B75.out)
                replace HB := aM (pE HB.out)
                obtain ⟨Ao52, co52, eo52⟩ := Kd.R_slice HO_5.out
                (first | subst eo52 | (injection eo52 with f1_ f2_ f3_; have f4_ := f1_.symm; have f5_ := f3_.symm; clear f1_ f2_ f3_; subst f4_; subst f5_))
                have p181 : 0 ≤ (((rd_T67 l0_1 x6_1).f1) : Int) := of_decide_eq_true (by assumption)
                have q181 : ((rd_T67 l0_1 x6_1).f1) < (x5_1.length : Int) := of_decide_eq_true (by assumption)
                obtain ⟨ad181, e181, hx181_0⟩ := Kd.at_bool (Kd.R_reads' HO_5.out).2.2 ((rd_T67 l0_1 x6_1).f1) p181 q181
                (try rw [← Nbq41.out] at hx181_0)
                cases e181
                replace p181 := eq_true p181
                replace q181 := eq_true q181
                have p182 : 0 ≤ (((rd_T67 l0_1 x6_1).f2) : Int) := of_decide_eq_true (by assumption)
                have q182 : ((rd_T67 l0_1 x6_1).f2) < (x5_1.length : Int) := of_decide_eq_true (by assumption)
                obtain ⟨ad182, e182, hx182_0⟩ := Kd.at_bool (Kd.R_reads' HO_5.out).2.2 ((rd_T67 l0_1 x6_1).f2) p182 q182
                (try rw [← Nbq41.out] at hx182_0)
                obtain rfl : ad181 = ad182 := (by injection e182)
                replace p182 := eq_true p182
                replace q182 := eq_true q182
                have p183 : 0 ≤ (((rd_T67 l0_1 x6_1).f3) : Int) := of_decide_eq_true (by assumption)
                have q183 : ((rd_T67 l0_1 x6_1).f3) < (x5_1.length : Int) := of_decide_eq_true (by assumption)
                obtain ⟨ad183, e183, hx183_0⟩ := Kd.at_bool (Kd.R_reads' HO_5.out).2.2 ((rd_T67 l0_1 x6_1).f3) p183 q183
                (try rw [← Nbq41.out] at hx183_0)
                obtain rfl : ad181 = ad183 := (by injection e183)
                replace p183 := eq_true p183
                replace q183 := eq_true q183
                have p45 : 0 ≤ (((rd_T67 l0_1 x6_1).f1) : Int) := of_decide_eq_true (by assumption)
                have q45 : (((rd_T67 l0_1 x6_1).f1) : Int) < ((x5_1.length : Int) : Int) := of_decide_eq_true (by assumption)
                obtain ⟨go45, co45, eo45, gb45, gl45, cl45, HG45⟩ := Kd.R_form HO_5.out (by omega)
                (first | cases eo45 | (injection eo45 with ea_ en_ ec_; (first | subst ea_ | (injection ea_ with ea_; subst ea_)); subst ec_; clear en_))
                have GB45 := aM gb45
                have GG45 := aM HG45
                clear gb45 gl45 HG45
                (first | simp only [add_plain] at hx181_0 | skip)
                (first | simp only [add_plain] at hx182_0 | skip)
                (first | simp only [add_plain] at hx183_0 | skip)
                obtain ⟨hx45_0, hf45_0⟩ := Kd.R_celln false HO_5.out (((rd_T67 l0_1 x6_1).f1) : Int) p45 q45
                replace p45 := eq_true p45
                replace q45 := eq_true q45
                have HP53 := Kd.R_putn HO_5.out (((rd_T67 l0_1 x6_1).f1) : Int) ((rdOf false x5_1 ((rd_T67 l0_1 x6_1).f1)) != (rdOf false x5_1 ((rd_T67 l0_1 x6_1).f3)))
                rw [← Ny184.out] at HP53
                have HQ53 := aM HP53
                clear HP53
                refine start_ (n := 23) (S := fun w' => w'.cell? ⟨gb175, 0, none⟩ = some (.int .i64 ((rd_T67 l0_1 x6_1).f0)) ∧ w'.cell? ⟨gb175, 1, none⟩ = some (.int .i64 ((rd_T67 l0_1 x6_1).f1)) ∧ w'.cell? ⟨gb175, 2, none⟩ = some (.int .i64 ((rd_T67 l0_1 x6_1).f2)) ∧ w'.cell? ⟨gb175, 3, none⟩ = some (.int .i64 ((rd_T67 l0_1 x6_1).f3)) ∧ w'.cell? ⟨go45, (((rd_T67 l0_1 x6_1).f1)).toNat, none⟩ = some (.bool (rdOf false x5_1 ((rd_T67 l0_1 x6_1).f1))) ∧ w'.cell? ⟨go45, (((rd_T67 l0_1 x6_1).f2)).toNat, none⟩ = some (.bool true) ∧ w'.cell? ⟨go45, (((rd_T67 l0_1 x6_1).f3)).toNat, none⟩ = some (.bool (rdOf false x5_1 ((rd_T67 l0_1 x6_1).f3)))) (ds := [22]) z29a6 (by kernel_rfl) rfl rfl ⟨(bE B75.out 0).trans rfl, (bE B75.out 1).trans rfl, (bE B75.out 2).trans rfl, (bE B75.out 3).trans rfl, (by first | exact hx181_0 | simpa [Addr.add] using hx181_0), hx182_0, hx183_0⟩ (fun hHeld => ?_); refine with_tabW commodatumref12_Run.tab12 commodatumref12_Run.bits12 (fun HT_ HW_ => ?_)
                generalize w50.drew = w51 at HO_5 B67 B75 HB GG45 HQ53 hf45_0 hx181_0 hx182_0 hx183_0 hx45_0 hHeld ⊢
                refine pure_ (i := 0) (N := some 57) (v := ?_) (a' := ?_) z30a6 rfl rfl (any_of HT_.out (by kernel_rfl)) (fun _ _ _ h => h) (Or.inl ⟨by rfl, ?_⟩) ?_ ?_; rotate_left; (intro w'; go_simp; with_reducible rfl); rotate_left; (simp only [Act.put, pSa6, i64_w]; rfl)
                refine pure_ (i := 1) (N := some 58) (v := ?_) (a' := ?_) z31a6 rfl rfl (any_of HT_.out (by kernel_rfl)) (fun _ _ _ h => h) (Or.inl ⟨by rfl, ?_⟩) ?_ ?_; rotate_left; (intro w'; go_simp; with_reducible rfl); rotate_left; (simp only [Act.put, pSa6, i64_w]; rfl)
                refine pure_ (i := 3) (N := some 60) (v := ?_) (a' := ?_) z32a6 rfl rfl (any_of HT_.out (by kernel_rfl)) (fun _ _ _ h => h) (Or.inl ⟨by rfl, ?_⟩) ?_ ?_; rotate_left; (intro w'; go_simp; with_reducible rfl); rotate_left; (simp only [Act.put, pSa6, i64_w]; rfl)
                refine pure_ (i := 4) (N := some 61) (v := ?_) (a' := ?_) z33a6 rfl rfl (any_of HT_.out (by kernel_rfl)) (fun _ _ _ h => h) (Or.inl ⟨by rfl, ?_⟩) ?_ ?_; rotate_left; (intro w'; go_simp; with_reducible rfl); rotate_left; (simp only [Act.put, pSa6, i64_w]; rfl)
                refine pure_ (i := 8) (N := some 65) (v := ?_) (a' := ?_) z34a6 rfl rfl (any_of HT_.out (by kernel_rfl)) (fun _ _ _ h => h) (Or.inl ⟨by rfl, ?_⟩) ?_ ?_; rotate_left; (intro w'; go_simp; with_reducible rfl); rotate_left; (simp only [Act.put, pSa6, i64_w]; rfl)
                refine pure_ (i := 9) (N := some 66) (v := ?_) (a' := ?_) z35a6 rfl rfl (any_of HT_.out (by kernel_rfl)) (fun _ _ _ h => h) (Or.inl ⟨by rfl, ?_⟩) ?_ ?_; rotate_left; (intro w'; go_simp; with_reducible rfl); rotate_left; (simp only [Act.put, pSa6, i64_w]; rfl)
                refine take_ (i := 2) (N := some 59) (v := ?_) (a' := ?_) z36a6 rfl rfl (take_ofW HT_.out HW_.out (by kernel_rfl)) (fun _ _ _ h => h) (Or.inl ⟨by rfl, ?_⟩) hHeld ?_ ?_; rotate_left; (rintro w' ⟨s0, s1, s2, s3, s4, s5, s6⟩; go_simp; with_reducible rfl); rotate_left; (simp only [Act.put, pSa6, i64_w]; rfl)
                refine take_ (i := 5) (N := some 62) (v := ?_) (a' := ?_) z37a6 rfl rfl (take_ofW HT_.out HW_.out (by kernel_rfl)) (fun _ _ _ h => h) (Or.inl ⟨by rfl, ?_⟩) hHeld ?_ ?_; rotate_left; (rintro w' ⟨s0, s1, s2, s3, s4, s5, s6⟩; go_simp; with_reducible rfl); rotate_left; (simp only [Act.put, pSa6, i64_w]; rfl)
                refine pure_ (i := 6) (N := some 63) (v := ?_) (a' := ?_) z38a6 rfl rfl (any_of HT_.out (by kernel_rfl)) (fun _ _ _ h => h) (Or.inl ⟨by rfl, ?_⟩) ?_ ?_; rotate_left; (intro w'; go_simp; with_reducible rfl); rotate_left; (simp only [Act.put, pSa6, i64_w]; rfl)
                refine take_ (i := 7) (N := some 64) (v := ?_) (a' := ?_) z39a6 rfl rfl (take_ofW HT_.out HW_.out (by kernel_rfl)) (fun _ _ _ h => h) (Or.inl ⟨by rfl, ?_⟩) hHeld ?_ ?_; rotate_left; (rintro w' ⟨s0, s1, s2, s3, s4, s5, s6⟩; go_simp; with_reducible rfl); rotate_left; (simp only [Act.put, pSa6, i64_w]; rfl)
                refine take_ (i := 10) (N := some 67) (v := ?_) (a' := ?_) z40a6 rfl rfl (take_ofW HT_.out HW_.out (by kernel_rfl)) (fun _ _ _ h => h) (Or.inl ⟨by rfl, ?_⟩) hHeld ?_ ?_; rotate_left; (rintro w' ⟨s0, s1, s2, s3, s4, s5, s6⟩; go_simp; with_reducible rfl); rotate_left; (simp only [Act.put, pSa6, i64_w]; rfl)
                refine pure_ (i := 11) (N := some 68) (v := ?_) (a' := ?_) z41a6 rfl rfl (any_of HT_.out (by kernel_rfl)) (fun _ _ _ h => h) (Or.inl ⟨by rfl, ?_⟩) ?_ ?_; rotate_left; (intro w'; go_simp; with_reducible rfl); rotate_left; (simp only [Act.put, pSa6, i64_w]; rfl)
                refine take_ (i := 12) (N := some 69) (v := ?_) (a' := ?_) z42a6 rfl rfl (take_ofW HT_.out HW_.out (by kernel_rfl)) (fun _ _ _ h => h) (Or.inl ⟨by rfl, ?_⟩) hHeld ?_ ?_; rotate_left; (rintro w' ⟨s0, s1, s2, s3, s4, s5, s6⟩; go_simp; with_reducible rfl); rotate_left; (simp only [Act.put, pSa6, i64_w]; rfl)
                refine pure_ (i := 13) (N := some 70) (v := ?_) (a' := ?_) z43a6 rfl rfl (any_of HT_.out (by kernel_rfl)) (fun _ _ _ h => h) (Or.inl ⟨by rfl, ?_⟩) ?_ ?_; rotate_left; (intro w'; go_simp; with_reducible rfl); rotate_left; (simp only [Act.put, pSa6, i64_w]; rfl)
                refine pure_ (i := 14) (N := some 71) (v := ?_) (a' := ?_) z44a6 rfl rfl (any_of HT_.out (by kernel_rfl)) (fun _ _ _ h => h) (Or.inl ⟨by rfl, ?_⟩) ?_ ?_; rotate_left; (intro w'; go_simp; with_reducible rfl); rotate_left; (simp only [Act.put, pSa6, i64_w]; rfl)
                refine pure_ (i := 15) (N := some 72) (v := ?_) (a' := ?_) z45a6 rfl rfl (any_of HT_.out (by kernel_rfl)) (fun _ _ _ h => h) (Or.inl ⟨by rfl, ?_⟩) ?_ ?_; rotate_left; (intro w'; go_simp; with_reducible rfl); rotate_left; (simp only [Act.put, pSa6, i64_w]; rfl)
                refine take_ (i := 16) (N := some 73) (v := ?_) (a' := ?_) z46a6 rfl rfl (take_ofW HT_.out HW_.out (by kernel_rfl)) (fun _ _ _ h => h) (Or.inl ⟨by rfl, ?_⟩) hHeld ?_ ?_; rotate_left; (rintro w' ⟨s0, s1, s2, s3, s4, s5, s6⟩; go_simp; with_reducible rfl); rotate_left; (simp only [Act.put, pSa6, i64_w]; rfl)
                refine pure_ (i := 17) (N := some 74) (v := ?_) (a' := ?_) z47a6 rfl rfl (any_of HT_.out (by kernel_rfl)) (fun _ _ _ h => h) (Or.inl ⟨by rfl, ?_⟩) ?_ ?_; rotate_left; (intro w'; go_simp; with_reducible rfl); rotate_left; (simp only [Act.put, pSa6, i64_w]; rfl)
                refine take_ (i := 18) (N := some 75) (v := ?_) (a' := ?_) z48a6 rfl rfl (take_ofW HT_.out HW_.out (by kernel_rfl)) (fun _ _ _ h => h) (Or.inl ⟨by rfl, ?_⟩) hHeld ?_ ?_; rotate_left; (rintro w' ⟨s0, s1, s2, s3, s4, s5, s6⟩; go_simp; with_reducible rfl); rotate_left; (simp only [Act.put, pSa6, i64_w]; rfl)
                refine pure_ (i := 19) (N := some 76) (v := ?_) (a' := ?_) z49a6 rfl rfl (any_of HT_.out (by kernel_rfl)) (fun _ _ _ h => h) (Or.inl ⟨by rfl, ?_⟩) ?_ ?_; rotate_left; (intro w'; go_simp; with_reducible rfl); rotate_left; (simp only [Act.put, pSa6, i64_w]; rfl)
                refine pure_ (i := 20) (N := some 77) (v := ?_) (a' := ?_) z50a6 rfl rfl (any_of HT_.out (by kernel_rfl)) (fun _ _ _ h => h) (Or.inl ⟨by rfl, ?_⟩) ?_ ?_; rotate_left; (intro w'; go_simp; with_reducible rfl); rotate_left; (simp only [Act.put, pSa6, i64_w]; rfl)
                refine pure_ (i := 21) (N := some 78) (v := ?_) (a' := ?_) z51a6 rfl rfl (any_of HT_.out (by kernel_rfl)) (fun _ _ _ h => h) (Or.inl ⟨by rfl, ?_⟩) ?_ ?_; rotate_left; (intro w'; go_simp; with_reducible rfl); rotate_left; (simp only [Act.put, pSa6, i64_w]; rfl)
                refine last_ (i := 22) (N := none) z52a6 rfl rfl (one_of HT_.out (by kernel_rfl)) (by decide) (fun K hK => ?_)
                refine skip_ (w1 := ?_) (by rfl) rfl ?_ ?_
                rotate_left
                ·go_simp
                 rfl
                refine hK.out _ _ ?_
                clear hK K
                refine done_ (done_of HT_.out (by kernel_rfl)) ?_
                try go_wp2
                go_roundg k1
                case measure => have := HK1.out; omega
                case rel => exact ⟨(y184), (wrap64 (x6_1 + 1)), (by first | rfl | (simp; done) | (simp [*]; done)), H', ⟨by have := HK1.out; omega⟩, ⟨by (with_reducible repeat (first | apply rA | apply rB | apply rC)); exact HQ53.out⟩, ⟨by (with_reducible repeat (first | refine bA ?_ _ | refine bB ?_ | refine bC ?_ _)); refine bG ?_ (by have h_ := Kd.R_ne HO_5.out B67.out (by decide); intro e_; exact h_ (by rw [e_]; rfl)) _; (with_reducible repeat (first | refine bA ?_ _ | refine bB ?_ | refine bC ?_ _)); exact B67.out⟩, ⟨by repeat (first | (with_reducible first | exact HB.out | apply pA | apply pD | apply pE | refine sT ?_ GB45.out | refine sT ?_ GE167.out | refine sT ?_ GE175.out) | exact HB.out)⟩⟩
               ·rw [if_neg c44] at H
                exact absurd H (by simp)
              ·rw [if_neg c43] at H
               exact absurd H (by simp)
             ·replace c42 := Bool.eq_false_iff.mpr c42
              subst c42
              have H1 : (commodatumref12_Run.l0 k1 (x5_1.set (((rd_T67 l0_1 x6_1).f1) : Int).toNat ((rdOf false x5_1 ((rd_T67 l0_1 x6_1).f1)) != false)) (wrap64 (x6_1 + 1)) a0_0 l0_1) = some r := by rw [if_neg (show ¬ (false = true) by decide)] at H; exact H
              clear H
              have H := H1
              clear H1
              obtain ⟨y185, hy185⟩ : ∃ y_ : List Bool, y_ = (x5_1.set (((rd_T67 l0_1 x6_1).f1) : Int).toNat ((rdOf false x5_1 ((rd_T67 l0_1 x6_1).f1)) != false)) := ⟨_, rfl⟩
              replace H : (commodatumref12_Run.l0 k1 y185 (wrap64 (x6_1 + 1)) a0_0 l0_1) = some r := by first | (rw [hy185]; with_reducible exact H) | (have H2_ := (Option.bind_some _ _).symm.trans H; rw [hy185]; with_reducible exact H2_) | (have H2_ := (Option.bind_some _ _).symm.trans H; with_reducible exact H2_) | with_reducible exact H | (rw [hy185]; exact H) | exact H
              have Ny185 := aM hy185
              clear hy185
              have H' := aM H
              clear H
              have hcz55_0 : wr.cell? ⟨gb167, 0, none⟩ = some (.int .i64 a0_0) := (bE B67.out 0).trans rfl
              have hcz55_1 : wr.cell? ⟨gb167, 1, none⟩ = some (.slice A0_1 l0_1.length c0_1) := (bE B67.out 1).trans rfl
              have hfz55_0 := bF B67.out 0
              have hfz55_1 := bF B67.out 1
              have p174 : 0 ≤ (x6_1 : Int) := of_decide_eq_true (by assumption)
              have q174 : x6_1 < (l0_1.length : Int) := of_decide_eq_true (by assumption)
              obtain ⟨ad174, e174, hx174_0, hx174_1, hx174_2, hx174_3⟩ := at_T67 HR0_1.out x6_1 p174 q174
              cases e174
              replace hx174_0 := (HB.out.cell (World.block_lt_of_cell? w _ hx174_0)).trans hx174_0
              replace hx174_1 := (HB.out.cell (World.block_lt_of_cell? w _ hx174_1)).trans hx174_1
              replace hx174_2 := (HB.out.cell (World.block_lt_of_cell? w _ hx174_2)).trans hx174_2
              replace hx174_3 := (HB.out.cell (World.block_lt_of_cell? w _ hx174_3)).trans hx174_3
              replace p174 := eq_true p174
              replace q174 := eq_true q174
              try go_wp2_with (first | ((with_reducible refine gate_dst (N := 7) rfl ?_); refine box_event ?hg (N := 7) ?hd (cs := #[.int .i64 0, .int .i64 0, .int .i64 0, .int .i64 0]) (t := 67) ?hr ?_; (case hd => rfl); (case hg => rfl); (case hr => first | (go_simp; done) | (go_simp; rfl)); intro gb175 hg w56 hbox hb; replace HO_5 := aM (Kd.R_below (by (with_reducible repeat (first | apply rA | apply rB | apply rC)); exact HO_5.out) hb); have B75 := aM (hbox); have GW175 := aM ((by rw [hg]; exact (below_size (by repeat (first | (with_reducible first | exact HB.out | apply pA | apply pD | apply pE | refine sT ?_ GE167.out) | exact HB.out))) : w.heap.size ≤ gb175)); have GE175 := aM ((by rw [hg]; exact (below_size (by repeat (first | (with_reducible first | exact HB.out | apply pA | apply pD | apply pE | refine sT ?_ GE167.out) | exact HB.out))) : w.heap.size ≤ gb175)); replace HB := aM (below_step (by repeat (first | (with_reducible first | exact HB.out | apply pA | apply pD | apply pE | refine sT ?_ GE167.out) | exact HB.out)) hb); have NB167_175 := aM ((by rw [hg]; exact Nat.ne_of_lt (blk_lt (g := gb167) (o := .cells #[.int .i64 a0_0, .slice (some ad174) l0_1.length c0_1] 25 (0, 0)) (by (with_reducible repeat (first | refine bA ?_ _ | refine bB ?_ | refine bC ?_ _)); exact B67.out)) : gb167 ≠ gb175)); have NB175_167 := aM ((by rw [hg]; exact Nat.ne_of_gt (blk_lt (g := gb167) (o := .cells #[.int .i64 a0_0, .slice (some ad174) l0_1.length c0_1] 25 (0, 0)) (by (with_reducible repeat (first | refine bA ?_ _ | refine bB ?_ | refine bC ?_ _)); exact B67.out)) : gb175 ≠ gb167)); replace B67 := aM (blk_below (g := gb167) (o := .cells #[.int .i64 a0_0, .slice (some ad174) l0_1.length c0_1] 25 (0, 0)) (by (with_reducible repeat (first | refine bA ?_ _ | refine bB ?_ | refine bC ?_ _)); exact B67.out) hb); clear hb hbox hg; have hnb57 := NB175_167.out; have hnc57 := NB167_175.out; have hcz58_0 : w56.cell? ⟨gb175, 0, none⟩ = some (.int .i64 0) := (bE B75.out 0).trans rfl; have hcz58_1 : w56.cell? ⟨gb175, 1, none⟩ = some (.int .i64 0) := (bE B75.out 1).trans rfl; have hcz58_2 : w56.cell? ⟨gb175, 2, none⟩ = some (.int .i64 0) := (bE B75.out 2).trans rfl; have hcz58_3 : w56.cell? ⟨gb175, 3, none⟩ = some (.int .i64 0) := (bE B75.out 3).trans rfl; have hfz58_0 := bF B75.out 0; have hfz58_1 := bF B75.out 1; have hfz58_2 := bF B75.out 2; have hfz58_3 := bF B75.out 3))
              have n0_ : Aside0 (Kd.R Kd.bool 4 ((((w56.setCell ⟨gb175, 0, none⟩ (.int .i64 ((rd_T67 l0_1 x6_1).f0))).setCell ⟨gb175, 1, none⟩ (.int .i64 ((rd_T67 l0_1 x6_1).f1))).setCell ⟨gb175, 2, none⟩ (.int .i64 ((rd_T67 l0_1 x6_1).f2))).setCell ⟨gb175, 3, none⟩ (.int .i64 ((rd_T67 l0_1 x6_1).f3))) w.heap.size (fun _ => True) v172 x5_1) := ⟨by (with_reducible repeat (first | apply rA | apply rB | apply rC)); exact Kd.R_mono (Kd.R_far (p := ⟨gb175, 3, none⟩) (Kd.R_far (p := ⟨gb175, 2, none⟩) (Kd.R_far (p := ⟨gb175, 1, none⟩) (Kd.R_far (p := ⟨gb175, 0, none⟩) (Kd.R_types HO_5.out B75.out (by decide)) (fun _ hk => hk.2) (.int .i64 ((rd_T67 l0_1 x6_1).f0))) (fun _ hk => hk.2) (.int .i64 ((rd_T67 l0_1 x6_1).f1))) (fun _ hk => hk.2) (.int .i64 ((rd_T67 l0_1 x6_1).f2))) (fun _ hk => hk.2) (.int .i64 ((rd_T67 l0_1 x6_1).f3))) (fun _ hk => trivial)⟩
              have n1_ : Aside0 (((((w56.setCell ⟨gb175, 0, none⟩ (.int .i64 ((rd_T67 l0_1 x6_1).f0))).setCell ⟨gb175, 1, none⟩ (.int .i64 ((rd_T67 l0_1 x6_1).f1))).setCell ⟨gb175, 2, none⟩ (.int .i64 ((rd_T67 l0_1 x6_1).f2))).setCell ⟨gb175, 3, none⟩ (.int .i64 ((rd_T67 l0_1 x6_1).f3))).heap[gb167]? = some (.cells #[.int .i64 a0_0, .slice (some ad174) l0_1.length c0_1] 25 (0, 0))) := ⟨by (with_reducible repeat (first | refine bA ?_ _ | refine bB ?_ | refine bC ?_ _)); refine bG ?_ NB167_175.out _; (with_reducible repeat (first | refine bA ?_ _ | refine bB ?_ | refine bC ?_ _)); refine bG ?_ NB167_175.out _; (with_reducible repeat (first | refine bA ?_ _ | refine bB ?_ | refine bC ?_ _)); refine bG ?_ NB167_175.out _; (with_reducible repeat (first | refine bA ?_ _ | refine bB ?_ | refine bC ?_ _)); refine bG ?_ NB167_175.out _; (with_reducible repeat (first | refine bA ?_ _ | refine bB ?_ | refine bC ?_ _)); exact B67.out⟩
              have n2_ : Aside0 (((((w56.setCell ⟨gb175, 0, none⟩ (.int .i64 ((rd_T67 l0_1 x6_1).f0))).setCell ⟨gb175, 1, none⟩ (.int .i64 ((rd_T67 l0_1 x6_1).f1))).setCell ⟨gb175, 2, none⟩ (.int .i64 ((rd_T67 l0_1 x6_1).f2))).setCell ⟨gb175, 3, none⟩ (.int .i64 ((rd_T67 l0_1 x6_1).f3))).heap[gb175]? = some (.cells #[.int .i64 ((rd_T67 l0_1 x6_1).f0), .int .i64 ((rd_T67 l0_1 x6_1).f1), .int .i64 ((rd_T67 l0_1 x6_1).f2), .int .i64 ((rd_T67 l0_1 x6_1).f3)] 67 (0, 0))) := ⟨by (with_reducible repeat (first | refine bA ?_ _ | refine bB ?_ | refine bC ?_ _)); refine blk_put (cs := #[.int .i64 ((rd_T67 l0_1 x6_1).f0), .int .i64 ((rd_T67 l0_1 x6_1).f1), .int .i64 ((rd_T67 l0_1 x6_1).f2), .int .i64 0]) ?_ 3 _ rfl; (with_reducible repeat (first | refine bA ?_ _ | refine bB ?_ | refine bC ?_ _)); refine blk_put (cs := #[.int .i64 ((rd_T67 l0_1 x6_1).f0), .int .i64 ((rd_T67 l0_1 x6_1).f1), .int .i64 0, .int .i64 0]) ?_ 2 _ rfl; (with_reducible repeat (first | refine bA ?_ _ | refine bB ?_ | refine bC ?_ _)); refine blk_put (cs := #[.int .i64 ((rd_T67 l0_1 x6_1).f0), .int .i64 0, .int .i64 0, .int .i64 0]) ?_ 1 _ rfl; (with_reducible repeat (first | refine bA ?_ _ | refine bB ?_ | refine bC ?_ _)); refine blk_put (cs := #[.int .i64 0, .int .i64 0, .int .i64 0, .int .i64 0]) ?_ 0 _ rfl; (with_reducible repeat (first | refine bA ?_ _ | refine bB ?_ | refine bC ?_ _)); exact B75.out⟩
              have n3_ : Aside0 (Below w.heap.size w ((((w56.setCell ⟨gb175, 0, none⟩ (.int .i64 ((rd_T67 l0_1 x6_1).f0))).setCell ⟨gb175, 1, none⟩ (.int .i64 ((rd_T67 l0_1 x6_1).f1))).setCell ⟨gb175, 2, none⟩ (.int .i64 ((rd_T67 l0_1 x6_1).f2))).setCell ⟨gb175, 3, none⟩ (.int .i64 ((rd_T67 l0_1 x6_1).f3)))) := ⟨by repeat (first | (with_reducible first | exact HB.out | apply pA | apply pD | apply pE | refine sT ?_ GE167.out | refine sT ?_ GE175.out) | exact HB.out)⟩
              (try clear HO_5)
              (try clear B67)
              (try clear B75)
              (try clear HB)
              generalize ((((w56.setCell ⟨gb175, 0, none⟩ (.int .i64 ((rd_T67 l0_1 x6_1).f0))).setCell ⟨gb175, 1, none⟩ (.int .i64 ((rd_T67 l0_1 x6_1).f1))).setCell ⟨gb175, 2, none⟩ (.int .i64 ((rd_T67 l0_1 x6_1).f2))).setCell ⟨gb175, 3, none⟩ (.int .i64 ((rd_T67 l0_1 x6_1).f3))) = w59 at n0_ n1_ n2_ n3_ ⊢
              have HO_5 := n0_
              have B67 := n1_
              have B75 := n2_
              have HB := n3_
              clear n0_ n1_ n2_ n3_
              replace HO_5 := aM (rC HO_5.out)
              replace B67 := aM (bB B67.out)
              replace B75 := aM (bB B75.out)
              replace HB := aM (pE HB.out)
              obtain ⟨Ao61, co61, eo61⟩ := Kd.R_slice HO_5.out
              (first | subst eo61 | (injection eo61 with f1_ f2_ f3_; have f4_ := f1_.symm; have f5_ := f3_.symm; clear f1_ f2_ f3_; subst f4_; subst f5_))
              have p181 : 0 ≤ (((rd_T67 l0_1 x6_1).f1) : Int) := of_decide_eq_true (by assumption)
              have q181 : ((rd_T67 l0_1 x6_1).f1) < (x5_1.length : Int) := of_decide_eq_true (by assumption)
              obtain ⟨ad181, e181, hx181_0⟩ := Kd.at_bool (Kd.R_reads' HO_5.out).2.2 ((rd_T67 l0_1 x6_1).f1) p181 q181
              (try rw [← Nbq41.out] at hx181_0)
              cases e181
              replace p181 := eq_true p181
              replace q181 := eq_true q181
              have p182 : 0 ≤ (((rd_T67 l0_1 x6_1).f2) : Int) := of_decide_eq_true (by assumption)
              have q182 : ((rd_T67 l0_1 x6_1).f2) < (x5_1.length : Int) := of_decide_eq_true (by assumption)
              obtain ⟨ad182, e182, hx182_0⟩ := Kd.at_bool (Kd.R_reads' HO_5.out).2.2 ((rd_T67 l0_1 x6_1).f2) p182 q182
              (try rw [← Nbq41.out] at hx182_0)
              obtain rfl : ad181 = ad182 := (by injection e182)
              replace p182 := eq_true p182
              replace q182 := eq_true q182
              have p54 : 0 ≤ (((rd_T67 l0_1 x6_1).f1) : Int) := of_decide_eq_true (by assumption)
              have q54 : (((rd_T67 l0_1 x6_1).f1) : Int) < ((x5_1.length : Int) : Int) := of_decide_eq_true (by assumption)
              obtain ⟨go54, co54, eo54, gb54, gl54, cl54, HG54⟩ := Kd.R_form HO_5.out (by omega)
              (first | cases eo54 | (injection eo54 with ea_ en_ ec_; (first | subst ea_ | (injection ea_ with ea_; subst ea_)); subst ec_; clear en_))
              have GB54 := aM gb54
              have GG54 := aM HG54
              clear gb54 gl54 HG54
              (first | simp only [add_plain] at hx181_0 | skip)
              (first | simp only [add_plain] at hx182_0 | skip)
              obtain ⟨hx54_0, hf54_0⟩ := Kd.R_celln false HO_5.out (((rd_T67 l0_1 x6_1).f1) : Int) p54 q54
              replace p54 := eq_true p54
              replace q54 := eq_true q54
              have HP62 := Kd.R_putn HO_5.out (((rd_T67 l0_1 x6_1).f1) : Int) ((rdOf false x5_1 ((rd_T67 l0_1 x6_1).f1)) != false)
              rw [← Ny185.out] at HP62
              have HQ62 := aM HP62
              clear HP62
              refine start_ (n := 23) (S := fun w' => w'.cell? ⟨gb175, 0, none⟩ = some (.int .i64 ((rd_T67 l0_1 x6_1).f0)) ∧ w'.cell? ⟨gb175, 1, none⟩ = some (.int .i64 ((rd_T67 l0_1 x6_1).f1)) ∧ w'.cell? ⟨gb175, 2, none⟩ = some (.int .i64 ((rd_T67 l0_1 x6_1).f2)) ∧ w'.cell? ⟨gb175, 3, none⟩ = some (.int .i64 ((rd_T67 l0_1 x6_1).f3)) ∧ w'.cell? ⟨go54, (((rd_T67 l0_1 x6_1).f1)).toNat, none⟩ = some (.bool (rdOf false x5_1 ((rd_T67 l0_1 x6_1).f1))) ∧ w'.cell? ⟨go54, (((rd_T67 l0_1 x6_1).f2)).toNat, none⟩ = some (.bool false)) (ds := [22]) z29a6 (by kernel_rfl) rfl rfl ⟨(bE B75.out 0).trans rfl, (bE B75.out 1).trans rfl, (bE B75.out 2).trans rfl, (bE B75.out 3).trans rfl, (by first | exact hx181_0 | simpa [Addr.add] using hx181_0), hx182_0⟩ (fun hHeld => ?_); refine with_tabW commodatumref12_Run.tab12 commodatumref12_Run.bits12 (fun HT_ HW_ => ?_)
              generalize w59.drew = w60 at HO_5 B67 B75 HB GG54 HQ62 hf54_0 hx181_0 hx182_0 hx54_0 hHeld ⊢
              refine pure_ (i := 0) (N := some 57) (v := ?_) (a' := ?_) z30a6 rfl rfl (any_of HT_.out (by kernel_rfl)) (fun _ _ _ h => h) (Or.inl ⟨by rfl, ?_⟩) ?_ ?_; rotate_left; (intro w'; go_simp; with_reducible rfl); rotate_left; (simp only [Act.put, pSa6, i64_w]; rfl)
              refine pure_ (i := 1) (N := some 58) (v := ?_) (a' := ?_) z31a6 rfl rfl (any_of HT_.out (by kernel_rfl)) (fun _ _ _ h => h) (Or.inl ⟨by rfl, ?_⟩) ?_ ?_; rotate_left; (intro w'; go_simp; with_reducible rfl); rotate_left; (simp only [Act.put, pSa6, i64_w]; rfl)
              refine pure_ (i := 3) (N := some 60) (v := ?_) (a' := ?_) z32a6 rfl rfl (any_of HT_.out (by kernel_rfl)) (fun _ _ _ h => h) (Or.inl ⟨by rfl, ?_⟩) ?_ ?_; rotate_left; (intro w'; go_simp; with_reducible rfl); rotate_left; (simp only [Act.put, pSa6, i64_w]; rfl)
              refine pure_ (i := 4) (N := some 61) (v := ?_) (a' := ?_) z33a6 rfl rfl (any_of HT_.out (by kernel_rfl)) (fun _ _ _ h => h) (Or.inl ⟨by rfl, ?_⟩) ?_ ?_; rotate_left; (intro w'; go_simp; with_reducible rfl); rotate_left; (simp only [Act.put, pSa6, i64_w]; rfl)
              refine pure_ (i := 8) (N := some 65) (v := ?_) (a' := ?_) z34a6 rfl rfl (any_of HT_.out (by kernel_rfl)) (fun _ _ _ h => h) (Or.inl ⟨by rfl, ?_⟩) ?_ ?_; rotate_left; (intro w'; go_simp; with_reducible rfl); rotate_left; (simp only [Act.put, pSa6, i64_w]; rfl)
              refine pure_ (i := 9) (N := some 66) (v := ?_) (a' := ?_) z35a6 rfl rfl (any_of HT_.out (by kernel_rfl)) (fun _ _ _ h => h) (Or.inl ⟨by rfl, ?_⟩) ?_ ?_; rotate_left; (intro w'; go_simp; with_reducible rfl); rotate_left; (simp only [Act.put, pSa6, i64_w]; rfl)
              refine take_ (i := 2) (N := some 59) (v := ?_) (a' := ?_) z36a6 rfl rfl (take_ofW HT_.out HW_.out (by kernel_rfl)) (fun _ _ _ h => h) (Or.inl ⟨by rfl, ?_⟩) hHeld ?_ ?_; rotate_left; (rintro w' ⟨s0, s1, s2, s3, s4, s5⟩; go_simp; with_reducible rfl); rotate_left; (simp only [Act.put, pSa6, i64_w]; rfl)
              refine take_ (i := 5) (N := some 62) (v := ?_) (a' := ?_) z37a6 rfl rfl (take_ofW HT_.out HW_.out (by kernel_rfl)) (fun _ _ _ h => h) (Or.inl ⟨by rfl, ?_⟩) hHeld ?_ ?_; rotate_left; (rintro w' ⟨s0, s1, s2, s3, s4, s5⟩; go_simp; with_reducible rfl); rotate_left; (simp only [Act.put, pSa6, i64_w]; rfl)
              refine pure_ (i := 6) (N := some 63) (v := ?_) (a' := ?_) z38a6 rfl rfl (any_of HT_.out (by kernel_rfl)) (fun _ _ _ h => h) (Or.inl ⟨by rfl, ?_⟩) ?_ ?_; rotate_left; (intro w'; go_simp; with_reducible rfl); rotate_left; (simp only [Act.put, pSa6, i64_w]; rfl)
              refine take_ (i := 7) (N := some 64) (v := ?_) (a' := ?_) z39a6 rfl rfl (take_ofW HT_.out HW_.out (by kernel_rfl)) (fun _ _ _ h => h) (Or.inl ⟨by rfl, ?_⟩) hHeld ?_ ?_; rotate_left; (rintro w' ⟨s0, s1, s2, s3, s4, s5⟩; go_simp; with_reducible rfl); rotate_left; (simp only [Act.put, pSa6, i64_w]; rfl)
              refine take_ (i := 10) (N := some 67) (v := ?_) (a' := ?_) z40a6 rfl rfl (take_ofW HT_.out HW_.out (by kernel_rfl)) (fun _ _ _ h => h) (Or.inl ⟨by rfl, ?_⟩) hHeld ?_ ?_; rotate_left; (rintro w' ⟨s0, s1, s2, s3, s4, s5⟩; go_simp; with_reducible rfl); rotate_left; (simp only [Act.put, pSa6, i64_w]; rfl)
              refine pure_ (i := 11) (N := some 68) (v := ?_) (a' := ?_) z41a6 rfl rfl (any_of HT_.out (by kernel_rfl)) (fun _ _ _ h => h) (Or.inl ⟨by rfl, ?_⟩) ?_ ?_; rotate_left; (intro w'; go_simp; with_reducible rfl); rotate_left; (simp only [Act.put, pSa6, i64_w]; rfl)
              refine take_ (i := 12) (N := some 69) (v := ?_) (a' := ?_) z42a6 rfl rfl (take_ofW HT_.out HW_.out (by kernel_rfl)) (fun _ _ _ h => h) (Or.inl ⟨by rfl, ?_⟩) hHeld ?_ ?_; rotate_left; (rintro w' ⟨s0, s1, s2, s3, s4, s5⟩; go_simp; with_reducible rfl); rotate_left; (simp only [Act.put, pSa6, i64_w]; rfl)
              refine pure_ (i := 13) (N := some 70) (v := ?_) (a' := ?_) z43a6 rfl rfl (any_of HT_.out (by kernel_rfl)) (fun _ _ _ h => h) (Or.inl ⟨by rfl, ?_⟩) ?_ ?_; rotate_left; (intro w'; go_simp; with_reducible rfl); rotate_left; (simp only [Act.put, pSa6, i64_w]; rfl)
              refine pure_ (i := 14) (N := some 71) (v := undef) (a' := ?_) z44a6 rfl rfl (any_of HT_.out (by kernel_rfl)) (fun _ _ _ h => h) (Or.inr ⟨by rfl, rfl⟩) ?_ ?_
              rotate_left
              ·simp only [Act.put, pSa6, i64_w]
               rfl
              refine pure_ (i := 15) (N := some 72) (v := undef) (a' := ?_) z45a6 rfl rfl (any_of HT_.out (by kernel_rfl)) (fun _ _ _ h => h) (Or.inr ⟨by rfl, rfl⟩) ?_ ?_
              rotate_left
              ·simp only [Act.put, pSa6, i64_w]
               rfl
              refine pure_ (i := 16) (N := some 73) (v := undef) (a' := ?_) z46a6 rfl rfl (any_of HT_.out (by kernel_rfl)) (fun _ _ _ h => h) (Or.inr ⟨by rfl, rfl⟩) ?_ ?_
              rotate_left
              ·simp only [Act.put, pSa6, i64_w]
               rfl
              refine pure_ (i := 17) (N := some 74) (v := undef) (a' := ?_) z47a6 rfl rfl (any_of HT_.out (by kernel_rfl)) (fun _ _ _ h => h) (Or.inr ⟨by rfl, rfl⟩) ?_ ?_
              rotate_left
              ·simp only [Act.put, pSa6, i64_w]
               rfl
              refine pure_ (i := 18) (N := some 75) (v := undef) (a' := ?_) z48a6 rfl rfl (any_of HT_.out (by kernel_rfl)) (fun _ _ _ h => h) (Or.inr ⟨by rfl, rfl⟩) ?_ ?_
              rotate_left
              ·simp only [Act.put, pSa6, i64_w]
               rfl
              refine pure_ (i := 19) (N := some 76) (v := ?_) (a' := ?_) z49a6 rfl rfl (any_of HT_.out (by kernel_rfl)) (fun _ _ _ h => h) (Or.inl ⟨by rfl, ?_⟩) ?_ ?_; rotate_left; (intro w'; go_simp; with_reducible rfl); rotate_left; (simp only [Act.put, pSa6, i64_w]; rfl)
              refine pure_ (i := 20) (N := some 77) (v := ?_) (a' := ?_) z50a6 rfl rfl (any_of HT_.out (by kernel_rfl)) (fun _ _ _ h => h) (Or.inl ⟨by rfl, ?_⟩) ?_ ?_; rotate_left; (intro w'; go_simp; with_reducible rfl); rotate_left; (simp only [Act.put, pSa6, i64_w]; rfl)
              refine pure_ (i := 21) (N := some 78) (v := ?_) (a' := ?_) z51a6 rfl rfl (any_of HT_.out (by kernel_rfl)) (fun _ _ _ h => h) (Or.inl ⟨by rfl, ?_⟩) ?_ ?_; rotate_left; (intro w'; go_simp; with_reducible rfl); rotate_left; (simp only [Act.put, pSa6, i64_w]; rfl)
              refine last_ (i := 22) (N := none) z52a6 rfl rfl (one_of HT_.out (by kernel_rfl)) (by decide) (fun K hK => ?_)
              refine skip_ (w1 := ?_) (by rfl) rfl ?_ ?_
              rotate_left
              ·go_simp
               rfl
              refine hK.out _ _ ?_
              clear hK K
              refine done_ (done_of HT_.out (by kernel_rfl)) ?_
              try go_wp2
              go_roundg k1
              case measure => have := HK1.out; omega
              case rel => exact ⟨(y185), (wrap64 (x6_1 + 1)), (by first | rfl | (simp; done) | (simp [*]; done)), H', ⟨by have := HK1.out; omega⟩, ⟨by (with_reducible repeat (first | apply rA | apply rB | apply rC)); (first | exact HQ62.out | (have h_ := HQ62.out; rw [show (rdOf false x5_1 (rd_T67 l0_1 x6_1).f1 != false) = rdOf false x5_1 (rd_T67 l0_1 x6_1).f1 by cases rdOf false x5_1 (rd_T67 l0_1 x6_1).f1 <;> rfl] at h_; exact h_))⟩, ⟨by (with_reducible repeat (first | refine bA ?_ _ | refine bB ?_ | refine bC ?_ _)); refine bG ?_ (by have h_ := Kd.R_ne HO_5.out B67.out (by decide); intro e_; exact h_ (by rw [e_]; rfl)) _; (with_reducible repeat (first | refine bA ?_ _ | refine bB ?_ | refine bC ?_ _)); exact B67.out⟩, ⟨by repeat (first | (with_reducible first | exact HB.out | apply pA | apply pD | apply pE | refine sT ?_ GB54.out | refine sT ?_ GE167.out | refine sT ?_ GE175.out) | exact HB.out)⟩⟩
            ·rw [if_neg c40] at H
             exact absurd H (by simp)
           ·rw [if_neg c39] at H
            exact absurd H (by simp)
          ·rw [if_neg c38] at H
           exact absurd H (by simp)
         ·rw [if_neg c37] at H
          exact absurd H (by simp)
        ·rw [if_neg c36] at H
         have c36b0 : (((rd_T67 l0_1 x6_1).f0) == 2) = false := beq_eq_false_iff_ne.mpr c36
         have c36b1 : (((rd_T67 l0_1 x6_1).f0) != 2) = true := bne_iff_ne.mpr c36
         by_cases c63 : ((rd_T67 l0_1 x6_1).f0) = 3
         ·rw [if_pos c63] at H
          have c63b0 : (((rd_T67 l0_1 x6_1).f0) == 3) = true := beq_iff_eq.mpr c63
          have c63b1 : (((rd_T67 l0_1 x6_1).f0) != 3) = false := bne_eq_false_iff_eq.mpr c63
          clear c63
          by_cases c64 : 0 ≤ ((rd_T67 l0_1 x6_1).f1)
          ·rw [if_pos c64] at H
           have c64b0 : decide (0 ≤ ((rd_T67 l0_1 x6_1).f1)) = true := decide_eq_true c64
           clear c64
           by_cases c65 : ((rd_T67 l0_1 x6_1).f1) < (x5_1.length : Int)
           ·rw [if_pos c65] at H
            have c65b0 : decide (((rd_T67 l0_1 x6_1).f1) < (x5_1.length : Int)) = true := decide_eq_true c65
            clear c65
            by_cases c66 : 0 ≤ ((rd_T67 l0_1 x6_1).f2)
            ·rw [if_pos c66] at H
             have c66b0 : decide (0 ≤ ((rd_T67 l0_1 x6_1).f2)) = true := decide_eq_true c66
             clear c66
             by_cases c67 : ((rd_T67 l0_1 x6_1).f2) < (x5_1.length : Int)
             ·rw [if_pos c67] at H
              have c67b0 : decide (((rd_T67 l0_1 x6_1).f2) < (x5_1.length : Int)) = true := decide_eq_true c67
              clear c67
              obtain ⟨y188, hy188⟩ : ∃ y_ : List Bool, y_ = (x5_1.set (((rd_T67 l0_1 x6_1).f1) : Int).toNat (rdOf false x5_1 ((rd_T67 l0_1 x6_1).f2))) := ⟨_, rfl⟩
              replace H : (commodatumref12_Run.l0 k1 (y188.set (((rd_T67 l0_1 x6_1).f2) : Int).toNat (rdOf false x5_1 ((rd_T67 l0_1 x6_1).f1))) (wrap64 (x6_1 + 1)) a0_0 l0_1) = some r := by first | (rw [hy188]; with_reducible exact H) | (have H2_ := (Option.bind_some _ _).symm.trans H; rw [hy188]; with_reducible exact H2_) | (have H2_ := (Option.bind_some _ _).symm.trans H; with_reducible exact H2_) | with_reducible exact H | (rw [hy188]; exact H) | exact H
              have Ny188 := aM hy188
              clear hy188
              obtain ⟨y189, hy189⟩ : ∃ y_ : List Bool, y_ = (y188.set (((rd_T67 l0_1 x6_1).f2) : Int).toNat (rdOf false x5_1 ((rd_T67 l0_1 x6_1).f1))) := ⟨_, rfl⟩
              replace H : (commodatumref12_Run.l0 k1 y189 (wrap64 (x6_1 + 1)) a0_0 l0_1) = some r := by first | (rw [hy189]; with_reducible exact H) | (have H2_ := (Option.bind_some _ _).symm.trans H; rw [hy189]; with_reducible exact H2_) | (have H2_ := (Option.bind_some _ _).symm.trans H; with_reducible exact H2_) | with_reducible exact H | (rw [hy189]; exact H) | exact H
              have Ny189 := aM hy189
              clear hy189
              have H' := aM H
              clear H
              have hcz70_0 : wr.cell? ⟨gb167, 0, none⟩ = some (.int .i64 a0_0) := (bE B67.out 0).trans rfl
              have hcz70_1 : wr.cell? ⟨gb167, 1, none⟩ = some (.slice A0_1 l0_1.length c0_1) := (bE B67.out 1).trans rfl
              have hfz70_0 := bF B67.out 0
              have hfz70_1 := bF B67.out 1
              have p174 : 0 ≤ (x6_1 : Int) := of_decide_eq_true (by assumption)
              have q174 : x6_1 < (l0_1.length : Int) := of_decide_eq_true (by assumption)
              obtain ⟨ad174, e174, hx174_0, hx174_1, hx174_2, hx174_3⟩ := at_T67 HR0_1.out x6_1 p174 q174
              cases e174
              replace hx174_0 := (HB.out.cell (World.block_lt_of_cell? w _ hx174_0)).trans hx174_0
              replace hx174_1 := (HB.out.cell (World.block_lt_of_cell? w _ hx174_1)).trans hx174_1
              replace hx174_2 := (HB.out.cell (World.block_lt_of_cell? w _ hx174_2)).trans hx174_2
              replace hx174_3 := (HB.out.cell (World.block_lt_of_cell? w _ hx174_3)).trans hx174_3
              replace p174 := eq_true p174
              replace q174 := eq_true q174
              try go_wp2_with (first | ((with_reducible refine gate_dst (N := 7) rfl ?_); refine box_event ?hg (N := 7) ?hd (cs := #[.int .i64 0, .int .i64 0, .int .i64 0, .int .i64 0]) (t := 67) ?hr ?_; (case hd => rfl); (case hg => rfl); (case hr => first | (go_simp; done) | (go_simp; rfl)); intro gb175 hg w71 hbox hb; replace HO_5 := aM (Kd.R_below (by (with_reducible repeat (first | apply rA | apply rB | apply rC)); exact HO_5.out) hb); have B75 := aM (hbox); have GW175 := aM ((by rw [hg]; exact (below_size (by repeat (first | (with_reducible first | exact HB.out | apply pA | apply pD | apply pE | refine sT ?_ GE167.out) | exact HB.out))) : w.heap.size ≤ gb175)); have GE175 := aM ((by rw [hg]; exact (below_size (by repeat (first | (with_reducible first | exact HB.out | apply pA | apply pD | apply pE | refine sT ?_ GE167.out) | exact HB.out))) : w.heap.size ≤ gb175)); replace HB := aM (below_step (by repeat (first | (with_reducible first | exact HB.out | apply pA | apply pD | apply pE | refine sT ?_ GE167.out) | exact HB.out)) hb); have NB167_175 := aM ((by rw [hg]; exact Nat.ne_of_lt (blk_lt (g := gb167) (o := .cells #[.int .i64 a0_0, .slice (some ad174) l0_1.length c0_1] 25 (0, 0)) (by (with_reducible repeat (first | refine bA ?_ _ | refine bB ?_ | refine bC ?_ _)); exact B67.out)) : gb167 ≠ gb175)); have NB175_167 := aM ((by rw [hg]; exact Nat.ne_of_gt (blk_lt (g := gb167) (o := .cells #[.int .i64 a0_0, .slice (some ad174) l0_1.length c0_1] 25 (0, 0)) (by (with_reducible repeat (first | refine bA ?_ _ | refine bB ?_ | refine bC ?_ _)); exact B67.out)) : gb175 ≠ gb167)); replace B67 := aM (blk_below (g := gb167) (o := .cells #[.int .i64 a0_0, .slice (some ad174) l0_1.length c0_1] 25 (0, 0)) (by (with_reducible repeat (first | refine bA ?_ _ | refine bB ?_ | refine bC ?_ _)); exact B67.out) hb); clear hb hbox hg; have hnb72 := NB175_167.out; have hnc72 := NB167_175.out; have hcz73_0 : w71.cell? ⟨gb175, 0, none⟩ = some (.int .i64 0) := (bE B75.out 0).trans rfl; have hcz73_1 : w71.cell? ⟨gb175, 1, none⟩ = some (.int .i64 0) := (bE B75.out 1).trans rfl; have hcz73_2 : w71.cell? ⟨gb175, 2, none⟩ = some (.int .i64 0) := (bE B75.out 2).trans rfl; have hcz73_3 : w71.cell? ⟨gb175, 3, none⟩ = some (.int .i64 0) := (bE B75.out 3).trans rfl; have hfz73_0 := bF B75.out 0; have hfz73_1 := bF B75.out 1; have hfz73_2 := bF B75.out 2; have hfz73_3 := bF B75.out 3; obtain ⟨Ao74, co74, eo74⟩ := Kd.R_slice HO_5.out; subst eo74; have p186 : 0 ≤ (((rd_T67 l0_1 x6_1).f1) : Int) := of_decide_eq_true (by assumption); have q186 : ((rd_T67 l0_1 x6_1).f1) < (x5_1.length : Int) := of_decide_eq_true (by assumption); obtain ⟨ad186, e186, hx186_0⟩ := Kd.at_bool (Kd.R_reads' HO_5.out).2.2 ((rd_T67 l0_1 x6_1).f1) p186 q186; cases e186; have hn186_0 : ad186.block ≠ gb175 := Kd.own_blk (Kd.R_ne HO_5.out B75.out (by decide)); have hn186_1 : ad186.block ≠ gb175 := Kd.own_blk (Kd.R_ne HO_5.out B75.out (by decide)); have hn186_2 : ad186.block ≠ gb175 := Kd.own_blk (Kd.R_ne HO_5.out B75.out (by decide)); have hn186_3 : ad186.block ≠ gb175 := Kd.own_blk (Kd.R_ne HO_5.out B75.out (by decide)); replace hx186_0 := (cell_far (p := ⟨gb175, 0, none⟩) (by first | (rw [add_block]; exact hn186_0) | (show (Addr.add _ _).block ≠ _; rw [add_block]; exact hn186_0) | exact hn186_0) (.int .i64 ((rd_T67 l0_1 x6_1).f0))).trans hx186_0; replace hx186_0 := (cell_far (p := ⟨gb175, 1, none⟩) (by first | (rw [add_block]; exact hn186_1) | (show (Addr.add _ _).block ≠ _; rw [add_block]; exact hn186_1) | exact hn186_1) (.int .i64 ((rd_T67 l0_1 x6_1).f1))).trans hx186_0; replace hx186_0 := (cell_far (p := ⟨gb175, 2, none⟩) (by first | (rw [add_block]; exact hn186_2) | (show (Addr.add _ _).block ≠ _; rw [add_block]; exact hn186_2) | exact hn186_2) (.int .i64 ((rd_T67 l0_1 x6_1).f2))).trans hx186_0; replace hx186_0 := (cell_far (p := ⟨gb175, 3, none⟩) (by first | (rw [add_block]; exact hn186_3) | (show (Addr.add _ _).block ≠ _; rw [add_block]; exact hn186_3) | exact hn186_3) (.int .i64 ((rd_T67 l0_1 x6_1).f3))).trans hx186_0; clear hn186_0 hn186_1 hn186_2 hn186_3; replace p186 := eq_true p186; replace q186 := eq_true q186))
              have n0_ : Aside0 (Kd.R Kd.bool 4 ((((w71.setCell ⟨gb175, 0, none⟩ (.int .i64 ((rd_T67 l0_1 x6_1).f0))).setCell ⟨gb175, 1, none⟩ (.int .i64 ((rd_T67 l0_1 x6_1).f1))).setCell ⟨gb175, 2, none⟩ (.int .i64 ((rd_T67 l0_1 x6_1).f2))).setCell ⟨gb175, 3, none⟩ (.int .i64 ((rd_T67 l0_1 x6_1).f3))) w.heap.size (fun _ => True) (.slice (some ad186) x5_1.length co74) x5_1) := ⟨by (with_reducible repeat (first | apply rA | apply rB | apply rC)); exact Kd.R_mono (Kd.R_far (p := ⟨gb175, 3, none⟩) (Kd.R_far (p := ⟨gb175, 2, none⟩) (Kd.R_far (p := ⟨gb175, 1, none⟩) (Kd.R_far (p := ⟨gb175, 0, none⟩) (Kd.R_types HO_5.out B75.out (by decide)) (fun _ hk => hk.2) (.int .i64 ((rd_T67 l0_1 x6_1).f0))) (fun _ hk => hk.2) (.int .i64 ((rd_T67 l0_1 x6_1).f1))) (fun _ hk => hk.2) (.int .i64 ((rd_T67 l0_1 x6_1).f2))) (fun _ hk => hk.2) (.int .i64 ((rd_T67 l0_1 x6_1).f3))) (fun _ hk => trivial)⟩
              have n1_ : Aside0 (((((w71.setCell ⟨gb175, 0, none⟩ (.int .i64 ((rd_T67 l0_1 x6_1).f0))).setCell ⟨gb175, 1, none⟩ (.int .i64 ((rd_T67 l0_1 x6_1).f1))).setCell ⟨gb175, 2, none⟩ (.int .i64 ((rd_T67 l0_1 x6_1).f2))).setCell ⟨gb175, 3, none⟩ (.int .i64 ((rd_T67 l0_1 x6_1).f3))).heap[gb167]? = some (.cells #[.int .i64 a0_0, .slice (some ad174) l0_1.length c0_1] 25 (0, 0))) := ⟨by (with_reducible repeat (first | refine bA ?_ _ | refine bB ?_ | refine bC ?_ _)); refine bG ?_ NB167_175.out _; (with_reducible repeat (first | refine bA ?_ _ | refine bB ?_ | refine bC ?_ _)); refine bG ?_ NB167_175.out _; (with_reducible repeat (first | refine bA ?_ _ | refine bB ?_ | refine bC ?_ _)); refine bG ?_ NB167_175.out _; (with_reducible repeat (first | refine bA ?_ _ | refine bB ?_ | refine bC ?_ _)); refine bG ?_ NB167_175.out _; (with_reducible repeat (first | refine bA ?_ _ | refine bB ?_ | refine bC ?_ _)); exact B67.out⟩
              have n2_ : Aside0 (((((w71.setCell ⟨gb175, 0, none⟩ (.int .i64 ((rd_T67 l0_1 x6_1).f0))).setCell ⟨gb175, 1, none⟩ (.int .i64 ((rd_T67 l0_1 x6_1).f1))).setCell ⟨gb175, 2, none⟩ (.int .i64 ((rd_T67 l0_1 x6_1).f2))).setCell ⟨gb175, 3, none⟩ (.int .i64 ((rd_T67 l0_1 x6_1).f3))).heap[gb175]? = some (.cells #[.int .i64 ((rd_T67 l0_1 x6_1).f0), .int .i64 ((rd_T67 l0_1 x6_1).f1), .int .i64 ((rd_T67 l0_1 x6_1).f2), .int .i64 ((rd_T67 l0_1 x6_1).f3)] 67 (0, 0))) := ⟨by (with_reducible repeat (first | refine bA ?_ _ | refine bB ?_ | refine bC ?_ _)); refine blk_put (cs := #[.int .i64 ((rd_T67 l0_1 x6_1).f0), .int .i64 ((rd_T67 l0_1 x6_1).f1), .int .i64 ((rd_T67 l0_1 x6_1).f2), .int .i64 0]) ?_ 3 _ rfl; (with_reducible repeat (first | refine bA ?_ _ | refine bB ?_ | refine bC ?_ _)); refine blk_put (cs := #[.int .i64 ((rd_T67 l0_1 x6_1).f0), .int .i64 ((rd_T67 l0_1 x6_1).f1), .int .i64 0, .int .i64 0]) ?_ 2 _ rfl; (with_reducible repeat (first | refine bA ?_ _ | refine bB ?_ | refine bC ?_ _)); refine blk_put (cs := #[.int .i64 ((rd_T67 l0_1 x6_1).f0), .int .i64 0, .int .i64 0, .int .i64 0]) ?_ 1 _ rfl; (with_reducible repeat (first | refine bA ?_ _ | refine bB ?_ | refine bC ?_ _)); refine blk_put (cs := #[.int .i64 0, .int .i64 0, .int .i64 0, .int .i64 0]) ?_ 0 _ rfl; (with_reducible repeat (first | refine bA ?_ _ | refine bB ?_ | refine bC ?_ _)); exact B75.out⟩
              have n3_ : Aside0 (Below w.heap.size w ((((w71.setCell ⟨gb175, 0, none⟩ (.int .i64 ((rd_T67 l0_1 x6_1).f0))).setCell ⟨gb175, 1, none⟩ (.int .i64 ((rd_T67 l0_1 x6_1).f1))).setCell ⟨gb175, 2, none⟩ (.int .i64 ((rd_T67 l0_1 x6_1).f2))).setCell ⟨gb175, 3, none⟩ (.int .i64 ((rd_T67 l0_1 x6_1).f3)))) := ⟨by repeat (first | (with_reducible first | exact HB.out | apply pA | apply pD | apply pE | refine sT ?_ GE167.out | refine sT ?_ GE175.out) | exact HB.out)⟩
              (try clear HO_5)
              (try clear B67)
              (try clear B75)
              (try clear HB)
              generalize ((((w71.setCell ⟨gb175, 0, none⟩ (.int .i64 ((rd_T67 l0_1 x6_1).f0))).setCell ⟨gb175, 1, none⟩ (.int .i64 ((rd_T67 l0_1 x6_1).f1))).setCell ⟨gb175, 2, none⟩ (.int .i64 ((rd_T67 l0_1 x6_1).f2))).setCell ⟨gb175, 3, none⟩ (.int .i64 ((rd_T67 l0_1 x6_1).f3))) = w75 at n0_ n1_ n2_ n3_ ⊢
              have HO_5 := n0_
              have B67 := n1_
              have B75 := n2_
              have HB := n3_
              clear n0_ n1_ n2_ n3_
              replace HO_5 := aM (rC HO_5.out)
              replace B67 := aM (bB B67.out)
              replace B75 := aM (bB B75.out)
              replace HB := aM (pE HB.out)
              have p187 : 0 ≤ (((rd_T67 l0_1 x6_1).f2) : Int) := of_decide_eq_true (by assumption)
              have q187 : ((rd_T67 l0_1 x6_1).f2) < (x5_1.length : Int) := of_decide_eq_true (by assumption)
              obtain ⟨ad187, e187, hx187_0⟩ := Kd.at_bool (Kd.R_reads' HO_5.out).2.2 ((rd_T67 l0_1 x6_1).f2) p187 q187
              obtain rfl : ad186 = ad187 := (by injection e187)
              replace p187 := eq_true p187
              replace q187 := eq_true q187
              have p68 : 0 ≤ (((rd_T67 l0_1 x6_1).f1) : Int) := of_decide_eq_true (by assumption)
              have q68 : (((rd_T67 l0_1 x6_1).f1) : Int) < ((x5_1.length : Int) : Int) := of_decide_eq_true (by assumption)
              obtain ⟨go68, co68, eo68, gb68, gl68, cl68, HG68⟩ := Kd.R_form HO_5.out (by omega)
              (first | cases eo68 | (injection eo68 with ea_ en_ ec_; (first | subst ea_ | (injection ea_ with ea_; subst ea_)); subst ec_; clear en_))
              have GB68 := aM gb68
              have GG68 := aM HG68
              clear gb68 gl68 HG68
              (first | simp only [add_plain] at hx186_0 | skip)
              (first | simp only [add_plain] at hx187_0 | skip)
              obtain ⟨hx68_0, hf68_0⟩ := Kd.R_celln false HO_5.out (((rd_T67 l0_1 x6_1).f1) : Int) p68 q68
              replace p68 := eq_true p68
              replace q68 := eq_true q68
              have HP77 := Kd.R_putn HO_5.out (((rd_T67 l0_1 x6_1).f1) : Int) (rdOf false x5_1 ((rd_T67 l0_1 x6_1).f2))
              rw [← Ny188.out] at HP77
              have HQ77 := aM HP77
              clear HP77
              refine start_ (n := 10) (S := fun w' => w'.cell? ⟨gb175, 0, none⟩ = some (.int .i64 ((rd_T67 l0_1 x6_1).f0)) ∧ w'.cell? ⟨gb175, 1, none⟩ = some (.int .i64 ((rd_T67 l0_1 x6_1).f1)) ∧ w'.cell? ⟨gb175, 2, none⟩ = some (.int .i64 ((rd_T67 l0_1 x6_1).f2)) ∧ w'.cell? ⟨gb175, 3, none⟩ = some (.int .i64 ((rd_T67 l0_1 x6_1).f3)) ∧ w'.cell? ⟨go68, (((rd_T67 l0_1 x6_1).f2)).toNat, none⟩ = some (.bool (rdOf false x5_1 ((rd_T67 l0_1 x6_1).f2)))) (ds := [9]) z53a6 (by kernel_rfl) rfl rfl ⟨(bE B75.out 0).trans rfl, (bE B75.out 1).trans rfl, (bE B75.out 2).trans rfl, (bE B75.out 3).trans rfl, hx187_0⟩ (fun hHeld => ?_); refine with_tabW commodatumref12_Run.tab15 commodatumref12_Run.bits15 (fun HT_ HW_ => ?_)
              generalize w75.drew = w76 at HO_5 B67 B75 HB GG68 HQ77 hf68_0 hx186_0 hx187_0 hx68_0 hHeld ⊢
              refine pure_ (i := 0) (N := some 86) (v := ?_) (a' := ?_) z54a6 rfl rfl (any_of HT_.out (by kernel_rfl)) (fun _ _ _ h => h) (Or.inl ⟨by rfl, ?_⟩) ?_ ?_; rotate_left; (intro w'; go_simp; with_reducible rfl); rotate_left; (simp only [Act.put, pSa6, i64_w]; rfl)
              refine pure_ (i := 1) (N := some 87) (v := ?_) (a' := ?_) z55a6 rfl rfl (any_of HT_.out (by kernel_rfl)) (fun _ _ _ h => h) (Or.inl ⟨by rfl, ?_⟩) ?_ ?_; rotate_left; (intro w'; go_simp; with_reducible rfl); rotate_left; (simp only [Act.put, pSa6, i64_w]; rfl)
              refine pure_ (i := 3) (N := some 89) (v := ?_) (a' := ?_) z56a6 rfl rfl (any_of HT_.out (by kernel_rfl)) (fun _ _ _ h => h) (Or.inl ⟨by rfl, ?_⟩) ?_ ?_; rotate_left; (intro w'; go_simp; with_reducible rfl); rotate_left; (simp only [Act.put, pSa6, i64_w]; rfl)
              refine pure_ (i := 4) (N := some 90) (v := ?_) (a' := ?_) z57a6 rfl rfl (any_of HT_.out (by kernel_rfl)) (fun _ _ _ h => h) (Or.inl ⟨by rfl, ?_⟩) ?_ ?_; rotate_left; (intro w'; go_simp; with_reducible rfl); rotate_left; (simp only [Act.put, pSa6, i64_w]; rfl)
              refine take_ (i := 2) (N := some 88) (v := ?_) (a' := ?_) z58a6 rfl rfl (take_ofW HT_.out HW_.out (by kernel_rfl)) (fun _ _ _ h => h) (Or.inl ⟨by rfl, ?_⟩) hHeld ?_ ?_; rotate_left; (rintro w' ⟨s0, s1, s2, s3, s4⟩; go_simp; with_reducible rfl); rotate_left; (simp only [Act.put, pSa6, i64_w]; rfl)
              refine take_ (i := 5) (N := some 91) (v := ?_) (a' := ?_) z59a6 rfl rfl (take_ofW HT_.out HW_.out (by kernel_rfl)) (fun _ _ _ h => h) (Or.inl ⟨by rfl, ?_⟩) hHeld ?_ ?_; rotate_left; (rintro w' ⟨s0, s1, s2, s3, s4⟩; go_simp; with_reducible rfl); rotate_left; (simp only [Act.put, pSa6, i64_w]; rfl)
              refine pure_ (i := 6) (N := some 92) (v := ?_) (a' := ?_) z60a6 rfl rfl (any_of HT_.out (by kernel_rfl)) (fun _ _ _ h => h) (Or.inl ⟨by rfl, ?_⟩) ?_ ?_; rotate_left; (intro w'; go_simp; with_reducible rfl); rotate_left; (simp only [Act.put, pSa6, i64_w]; rfl)
              refine take_ (i := 7) (N := some 93) (v := ?_) (a' := ?_) z61a6 rfl rfl (take_ofW HT_.out HW_.out (by kernel_rfl)) (fun _ _ _ h => h) (Or.inl ⟨by rfl, ?_⟩) hHeld ?_ ?_; rotate_left; (rintro w' ⟨s0, s1, s2, s3, s4⟩; go_simp; with_reducible rfl); rotate_left; (simp only [Act.put, pSa6, i64_w]; rfl)
              refine pure_ (i := 8) (N := some 94) (v := ?_) (a' := ?_) z62a6 rfl rfl (any_of HT_.out (by kernel_rfl)) (fun _ _ _ h => h) (Or.inl ⟨by rfl, ?_⟩) ?_ ?_; rotate_left; (intro w'; go_simp; with_reducible rfl); rotate_left; (simp only [Act.put, pSa6, i64_w]; rfl)
              refine last_ (i := 9) (N := none) z63a6 rfl rfl (one_of HT_.out (by kernel_rfl)) (by decide) (fun K hK => ?_)
              refine skip_ (w1 := ?_) (by rfl) rfl ?_ ?_
              rotate_left
              ·go_simp
               rfl
              refine hK.out _ _ ?_
              clear hK K
              refine done_ (done_of HT_.out (by kernel_rfl)) ?_
              have n0_ : Aside0 (Kd.R Kd.bool 4 (w76.setCell ⟨go68, (((rd_T67 l0_1 x6_1).f1) : Int).toNat, none⟩ (.bool (rdOf false x5_1 ((rd_T67 l0_1 x6_1).f2)))) w.heap.size (fun _ => True) (.slice (some ⟨go68, 0, none⟩) x5_1.length co74) y188) := ⟨by (with_reducible repeat (first | apply rA | apply rB | apply rC)); exact HQ77.out⟩
              have n1_ : Aside0 ((w76.setCell ⟨go68, (((rd_T67 l0_1 x6_1).f1) : Int).toNat, none⟩ (.bool (rdOf false x5_1 ((rd_T67 l0_1 x6_1).f2)))).heap[gb167]? = some (.cells #[.int .i64 a0_0, .slice (some ad174) l0_1.length c0_1] 25 (0, 0))) := ⟨by (with_reducible repeat (first | refine bA ?_ _ | refine bB ?_ | refine bC ?_ _)); refine bG ?_ (by have h_ := Kd.R_ne HO_5.out B67.out (by decide); intro e_; exact h_ (by rw [e_]; rfl)) _; (with_reducible repeat (first | refine bA ?_ _ | refine bB ?_ | refine bC ?_ _)); exact B67.out⟩
              have n2_ : Aside0 ((w76.setCell ⟨go68, (((rd_T67 l0_1 x6_1).f1) : Int).toNat, none⟩ (.bool (rdOf false x5_1 ((rd_T67 l0_1 x6_1).f2)))).heap[gb175]? = some (.cells #[.int .i64 ((rd_T67 l0_1 x6_1).f0), .int .i64 ((rd_T67 l0_1 x6_1).f1), .int .i64 ((rd_T67 l0_1 x6_1).f2), .int .i64 ((rd_T67 l0_1 x6_1).f3)] 67 (0, 0))) := ⟨by (with_reducible repeat (first | refine bA ?_ _ | refine bB ?_ | refine bC ?_ _)); refine bG ?_ (by have h_ := Kd.R_ne HO_5.out B75.out (by decide); intro e_; exact h_ (by rw [e_]; rfl)) _; (with_reducible repeat (first | refine bA ?_ _ | refine bB ?_ | refine bC ?_ _)); exact B75.out⟩
              have n3_ : Aside0 (Below w.heap.size w (w76.setCell ⟨go68, (((rd_T67 l0_1 x6_1).f1) : Int).toNat, none⟩ (.bool (rdOf false x5_1 ((rd_T67 l0_1 x6_1).f2))))) := ⟨by repeat (first | (with_reducible first | exact HB.out | apply pA | apply pD | apply pE | refine sT ?_ GB68.out | refine sT ?_ GE167.out | refine sT ?_ GE175.out) | exact HB.out)⟩
              (try clear HO_5)
              (try clear B67)
              (try clear B75)
              (try clear HB)
              generalize (w76.setCell ⟨go68, (((rd_T67 l0_1 x6_1).f1) : Int).toNat, none⟩ (.bool (rdOf false x5_1 ((rd_T67 l0_1 x6_1).f2)))) = w78 at n0_ n1_ n2_ n3_ ⊢
              have HO_5 := n0_
              have B67 := n1_
              have B75 := n2_
              have HB := n3_
              clear n0_ n1_ n2_ n3_
              have hcz79_0 : w78.cell? ⟨gb175, 0, none⟩ = some (.int .i64 ((rd_T67 l0_1 x6_1).f0)) := (bE B75.out 0).trans rfl
              have hcz79_1 : w78.cell? ⟨gb175, 1, none⟩ = some (.int .i64 ((rd_T67 l0_1 x6_1).f1)) := (bE B75.out 1).trans rfl
              have hcz79_2 : w78.cell? ⟨gb175, 2, none⟩ = some (.int .i64 ((rd_T67 l0_1 x6_1).f2)) := (bE B75.out 2).trans rfl
              have hcz79_3 : w78.cell? ⟨gb175, 3, none⟩ = some (.int .i64 ((rd_T67 l0_1 x6_1).f3)) := (bE B75.out 3).trans rfl
              have hfz79_0 := bF B75.out 0
              have hfz79_1 := bF B75.out 1
              have hfz79_2 := bF B75.out 2
              have hfz79_3 := bF B75.out 3
              have p69 : 0 ≤ (((rd_T67 l0_1 x6_1).f2) : Int) := of_decide_eq_true (by assumption)
              have q69 : (((rd_T67 l0_1 x6_1).f2) : Int) < ((x5_1.length : Int) : Int) := of_decide_eq_true (by assumption)
              obtain ⟨hx69_0, hf69_0⟩ := Kd.R_celln false HO_5.out (((rd_T67 l0_1 x6_1).f2) : Int) p69 q69
              replace p69 := eq_true p69
              replace q69 := eq_true q69
              obtain ⟨hy80_, hz80_⟩ := Kd.R_celln false HO_5.out (((rd_T67 l0_1 x6_1).f2) : Int) (of_decide_eq_true (by assumption)) (of_decide_eq_true (by assumption))
              have HP80 := Kd.R_putg HO_5.out (((rd_T67 l0_1 x6_1).f2) : Int) (rdOf false x5_1 ((rd_T67 l0_1 x6_1).f1))
              try go_wp2_with (first | ((with_reducible refine gate_store (t := 4) (p := 99) rfl ?_); refine store_event (t := 4) (p := 99) (v := ?vo_w81) (w1 := (w78.setCell ⟨go68, (((rd_T67 l0_1 x6_1).f2) : Int).toNat, none⟩ (.bool (rdOf false x5_1 ((rd_T67 l0_1 x6_1).f1))))) ?hg ?ho ?hn ?hr ?_; (case ho => rfl); (case hg => rfl); (case hn => rfl); (case hr => first | (go_simp; done) | (go_simp; rfl)); intro w81 hw; have hg : w78.grownBy w81 (some go68) := (by rw [hw]; exact HP80.2); have hp_ : Kd.R Kd.bool 4 w81 w.heap.size (fun _ => True) (.slice (some ⟨go68, 0, none⟩) x5_1.length co74) y189 := (by rw [hw, Ny189.out]; exact HP80.1); clear HP80; replace B67 := aM (blk_grown (g := gb167) (o := .cells #[.int .i64 a0_0, .slice (some ad174) l0_1.length c0_1] 25 (0, 0)) (by (with_reducible repeat (first | refine bA ?_ _ | refine bB ?_ | refine bC ?_ _)); exact B67.out) hg (Kd.R_ne HO_5.out B67.out (by decide))); replace B75 := aM (blk_grown (g := gb175) (o := .cells #[.int .i64 ((rd_T67 l0_1 x6_1).f0), .int .i64 ((rd_T67 l0_1 x6_1).f1), .int .i64 ((rd_T67 l0_1 x6_1).f2), .int .i64 ((rd_T67 l0_1 x6_1).f3)] 67 (0, 0)) (by (with_reducible repeat (first | refine bA ?_ _ | refine bB ?_ | refine bC ?_ _)); exact B75.out) hg (Kd.R_ne HO_5.out B75.out (by decide))); replace HO_5 := aM (hp_); replace HB := aM ((by rw [hw]; exact sT (HB.out) GB68.out : Below w.heap.size w w81)); clear hg hw hp_))
              go_roundg k1
              case measure => have := HK1.out; omega
              case rel => exact ⟨(y189), (wrap64 (x6_1 + 1)), (by first | rfl | (simp; done) | (simp [*]; done)), H', ⟨by have := HK1.out; omega⟩, ⟨by (with_reducible repeat (first | apply rA | apply rB | apply rC)); exact HO_5.out⟩, ⟨by (with_reducible repeat (first | refine bA ?_ _ | refine bB ?_ | refine bC ?_ _)); exact B67.out⟩, ⟨by repeat (first | (with_reducible first | exact HB.out | apply pA | apply pD | apply pE | refine sT ?_ GE167.out | refine sT ?_ GE175.out) | exact HB.out)⟩⟩
             ·rw [if_neg c67] at H
              exact absurd H (by simp)
            ·rw [if_neg c66] at H
             exact absurd H (by simp)
           ·rw [if_neg c65] at H
            exact absurd H (by simp)
          ·rw [if_neg c64] at H
           exact absurd H (by simp)
         ·rw [if_neg c63] at H
          have c63b0 : (((rd_T67 l0_1 x6_1).f0) == 3) = false := beq_eq_false_iff_ne.mpr c63
          have c63b1 : (((rd_T67 l0_1 x6_1).f0) != 3) = true := bne_iff_ne.mpr c63
          have H' := aM H
          clear H
          have hcz82_0 : wr.cell? ⟨gb167, 0, none⟩ = some (.int .i64 a0_0) := (bE B67.out 0).trans rfl
          have hcz82_1 : wr.cell? ⟨gb167, 1, none⟩ = some (.slice A0_1 l0_1.length c0_1) := (bE B67.out 1).trans rfl
          have hfz82_0 := bF B67.out 0
          have hfz82_1 := bF B67.out 1
          have p174 : 0 ≤ (x6_1 : Int) := of_decide_eq_true (by assumption)
          have q174 : x6_1 < (l0_1.length : Int) := of_decide_eq_true (by assumption)
          obtain ⟨ad174, e174, hx174_0, hx174_1, hx174_2, hx174_3⟩ := at_T67 HR0_1.out x6_1 p174 q174
          cases e174
          replace hx174_0 := (HB.out.cell (World.block_lt_of_cell? w _ hx174_0)).trans hx174_0
          replace hx174_1 := (HB.out.cell (World.block_lt_of_cell? w _ hx174_1)).trans hx174_1
          replace hx174_2 := (HB.out.cell (World.block_lt_of_cell? w _ hx174_2)).trans hx174_2
          replace hx174_3 := (HB.out.cell (World.block_lt_of_cell? w _ hx174_3)).trans hx174_3
          replace p174 := eq_true p174
          replace q174 := eq_true q174
          go_wp2_with (first | ((with_reducible refine gate_dst (N := 7) rfl ?_); refine box_event ?hg (N := 7) ?hd (cs := #[.int .i64 0, .int .i64 0, .int .i64 0, .int .i64 0]) (t := 67) ?hr ?_; (case hd => rfl); (case hg => rfl); (case hr => first | (go_simp; done) | (go_simp; rfl)); intro gb175 hg w83 hbox hb; replace HO_5 := aM (Kd.R_below (by (with_reducible repeat (first | apply rA | apply rB | apply rC)); exact HO_5.out) hb); have B75 := aM (hbox); have GW175 := aM ((by rw [hg]; exact (below_size (by repeat (first | (with_reducible first | exact HB.out | apply pA | apply pD | apply pE | refine sT ?_ GE167.out) | exact HB.out))) : w.heap.size ≤ gb175)); have GE175 := aM ((by rw [hg]; exact (below_size (by repeat (first | (with_reducible first | exact HB.out | apply pA | apply pD | apply pE | refine sT ?_ GE167.out) | exact HB.out))) : w.heap.size ≤ gb175)); replace HB := aM (below_step (by repeat (first | (with_reducible first | exact HB.out | apply pA | apply pD | apply pE | refine sT ?_ GE167.out) | exact HB.out)) hb); have NB167_175 := aM ((by rw [hg]; exact Nat.ne_of_lt (blk_lt (g := gb167) (o := .cells #[.int .i64 a0_0, .slice (some ad174) l0_1.length c0_1] 25 (0, 0)) (by (with_reducible repeat (first | refine bA ?_ _ | refine bB ?_ | refine bC ?_ _)); exact B67.out)) : gb167 ≠ gb175)); have NB175_167 := aM ((by rw [hg]; exact Nat.ne_of_gt (blk_lt (g := gb167) (o := .cells #[.int .i64 a0_0, .slice (some ad174) l0_1.length c0_1] 25 (0, 0)) (by (with_reducible repeat (first | refine bA ?_ _ | refine bB ?_ | refine bC ?_ _)); exact B67.out)) : gb175 ≠ gb167)); replace B67 := aM (blk_below (g := gb167) (o := .cells #[.int .i64 a0_0, .slice (some ad174) l0_1.length c0_1] 25 (0, 0)) (by (with_reducible repeat (first | refine bA ?_ _ | refine bB ?_ | refine bC ?_ _)); exact B67.out) hb); clear hb hbox hg; have hnb84 := NB175_167.out; have hnc84 := NB167_175.out; have hcz85_0 : w83.cell? ⟨gb175, 0, none⟩ = some (.int .i64 0) := (bE B75.out 0).trans rfl; have hcz85_1 : w83.cell? ⟨gb175, 1, none⟩ = some (.int .i64 0) := (bE B75.out 1).trans rfl; have hcz85_2 : w83.cell? ⟨gb175, 2, none⟩ = some (.int .i64 0) := (bE B75.out 2).trans rfl; have hcz85_3 : w83.cell? ⟨gb175, 3, none⟩ = some (.int .i64 0) := (bE B75.out 3).trans rfl; have hfz85_0 := bF B75.out 0; have hfz85_1 := bF B75.out 1; have hfz85_2 := bF B75.out 2; have hfz85_3 := bF B75.out 3))
          go_roundg k1
          case measure => have := HK1.out; omega
          case rel => exact ⟨(x5_1), (wrap64 (x6_1 + 1)), (by first | rfl | (simp; done) | (simp [*]; done)), H', ⟨by have := HK1.out; omega⟩, ⟨by (with_reducible repeat (first | apply rA | apply rB | apply rC)); exact Kd.R_mono (Kd.R_far (p := ⟨gb175, 3, none⟩) (Kd.R_far (p := ⟨gb175, 2, none⟩) (Kd.R_far (p := ⟨gb175, 1, none⟩) (Kd.R_far (p := ⟨gb175, 0, none⟩) (Kd.R_types HO_5.out B75.out (by decide)) (fun _ hk => hk.2) (.int .i64 ((rd_T67 l0_1 x6_1).f0))) (fun _ hk => hk.2) (.int .i64 ((rd_T67 l0_1 x6_1).f1))) (fun _ hk => hk.2) (.int .i64 ((rd_T67 l0_1 x6_1).f2))) (fun _ hk => hk.2) (.int .i64 ((rd_T67 l0_1 x6_1).f3))) (fun _ hk => trivial)⟩, ⟨by (with_reducible repeat (first | refine bA ?_ _ | refine bB ?_ | refine bC ?_ _)); refine bG ?_ NB167_175.out _; (with_reducible repeat (first | refine bA ?_ _ | refine bB ?_ | refine bC ?_ _)); refine bG ?_ NB167_175.out _; (with_reducible repeat (first | refine bA ?_ _ | refine bB ?_ | refine bC ?_ _)); refine bG ?_ NB167_175.out _; (with_reducible repeat (first | refine bA ?_ _ | refine bB ?_ | refine bC ?_ _)); refine bG ?_ NB167_175.out _; (with_reducible repeat (first | refine bA ?_ _ | refine bB ?_ | refine bC ?_ _)); exact B67.out⟩, ⟨by repeat (first | (with_reducible first | exact HB.out | apply pA | apply pD | apply pE | refine sT ?_ GE167.out | refine sT ?_ GE175.out) | exact HB.out)⟩⟩
     ·rw [if_neg c9] at H
      exact absurd H (by simp)
    ·rw [if_neg c8] at H
     have c8b0 : decide (x6_1 < (l0_1.length : Int)) = false := decide_eq_false c8
     clear c8
     obtain rfl := Option.some.inj H
     have hcz86_0 : wr.cell? ⟨gb167, 0, none⟩ = some (.int .i64 a0_0) := (bE B67.out 0).trans rfl
     have hcz86_1 : wr.cell? ⟨gb167, 1, none⟩ = some (.slice A0_1 l0_1.length c0_1) := (bE B67.out 1).trans rfl
     have hfz86_0 := bF B67.out 0
     have hfz86_1 := bF B67.out 1
     go_wp2
     go_ret
     exact ⟨_, by first | rfl | (simp [errW_none, errW_some] <;> rfl) | (simp [*, errW_none, errW_some] <;> rfl), by (with_reducible repeat (first | apply rA | apply rB | apply rC)); exact HO_5.out, by repeat (first | (with_reducible first | exact HB.out | apply pA | apply pD | apply pE | refine sT ?_ GE167.out) | exact HB.out)⟩
 ·rw [if_neg c3] at H
  exact absurd H (by simp)

end Go.Proofs.YthfhnkpipdbekaaDoor.Ta
