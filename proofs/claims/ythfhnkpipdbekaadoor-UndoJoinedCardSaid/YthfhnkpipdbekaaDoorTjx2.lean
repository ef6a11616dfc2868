-- CUT by a program of this session: what the claim does not use is left out
import Derived.Test.YthfhnkpipdbekaaDoorUax0
import Derived.Test.YthfhnkpipdbekaaDoorProg
import Derived.Below
import Derived.Deep.Draws
import Derived.Deep.AppendLies
import Derived.Maps.AppendAt
import Derived.OwnWalk
import Derived.Laws.BytesArg
import Derived.Laws.MakeOwn
import Derived.Laws.OwnMore
import Derived.Deep.OwnRows
import Derived.Tactics
import Derived.Lib.ConvBytes
import Derived.Laws.Slices
import Derived.WalkKit
import Derived.KernelRfl
import Derived.RowKit3
import Derived.Deep.LoopGhost
import Derived.Deep.QuietTactic
import Derived.BigQuiet
import Derived.WideLaws
import Derived.Deep.DeepCutAuto
import Derived.Deep.CutBlock
import Derived.Deep.RegionHeld3
import Derived.Laws.Rows
import Derived.Lib.AppendStr
import Derived.ArgAppend
import Derived.Laws.IdiomCopy
import Derived.OrdersHeld
import Derived.Laws.BitsLemmas
import Derived.RowKit
import Derived.Test.YthfhnkpipdbekaaDoorN12
import Derived.Test.YthfhnkpipdbekaaDoorN6
import Derived.Test.YthfhnkpipdbekaaDoorWAll
import Derived.Test.YthfhnkpipdbekaaDoorTax5
import Derived.Test.YthfhnkpipdbekaaDoorTax12
import Derived.Test.YthfhnkpipdbekaaDoorTax13
import Derived.Test.YthfhnkpipdbekaaDoorTax2
import Derived.Test.YthfhnkpipdbekaaDoorTax3
import Derived.Test.YthfhnkpipdbekaaDoorTax4
import Derived.Test.YthfhnkpipdbekaaDoorTxx1
import Derived.Test.YthfhnkpipdbekaaDoorTxx2
import Derived.Test.YthfhnkpipdbekaaDoorTbx1
import Derived.Test.YthfhnkpipdbekaaDoorN15
import Derived.Test.YthfhnkpipdbekaaDoorTjx1
namespace Go.Proofs.YthfhnkpipdbekaaDoor.Tj
open Go.Proofs.YthfhnkpipdbekaaDoor.Ua
open Go.Proofs.YthfhnkpipdbekaaDoor.Giv
open Go.Proofs.YthfhnkpipdbekaaDoor.Ta (undo_enumerable.f undo_enumerable.calls undo_final.f undo_final.calls undo_final.mono undo_Dirty.f undo_Dirty.calls undo_Dirty.mono undo_Inverse.f undo_Inverse.mono undo_Permutation.f undo_Permutation.calls undo_Permutation.mono undo_Restores.f undo_Restores.mono commodatumref12_op.f commodatumref12_op.calls commodatumref12_Cost.f commodatumref12_Cost.calls commodatumref12_Valid.f commodatumref12_Valid.calls commodatumlaw12_Copy.f commodatumlaw12_Copy.calls commodatumref12_Join.f commodatumref12_Join.calls commodatumref12_Equal.f commodatumref12_Equal.calls commodatumref12_Equal.mono)
open Go.Proofs.YthfhnkpipdbekaaDoor.Tx (slices_Index_string_string.f slices_Index_string_string.calls slices_Index_string_string.mono undo_numbers.f undo_numbers.mono)
open Go.Proofs.YthfhnkpipdbekaaDoor.Ui (bits_Input.f bits_Input.calls bits_Input.mono slices_Equal_bool_bool.f slices_Equal_bool_bool.calls slices_Equal_bool_bool.mono)
open Go.Proofs.YthfhnkpipdbekaaDoor.Tb (commodatumlaw12_Awake.f commodatumlaw12_Awake.calls commodatumlaw12_Awake.mono commodatumlaw12_Wide.f commodatumlaw12_Wide.calls)
open Go.RowKit Go.Proofs.YthfhnkpipdbekaaDoorW.PrintWords Go.Proofs.YthfhnkpipdbekaaDoorW.PrintLast Go.Proofs.YthfhnkpipdbekaaDoorW.PrintMore
attribute [local go_sem] max2_int min2_int max_two min_two max_three min_three max_four min_four   -- for this text's walks alone
set_option linter.unusedVariables false
set_option linter.unusedSimpArgs false

mutual
def commodatumlaw12_UndoJoined.j0 : Nat → Bool → Int → List (S67) → Int → List (S67) → Option (Bool)
 | 0, _, _, _, _, _ => none
 | k + 1, x50, x113000, x113001, x114000, x114001 => if x50 = true then ((commodatumlaw12_Awake.f k).bind fun t123 => (some t123)) else ((commodatumlaw12_Copy.f x113000 x113001).bind fun bt124 => ((commodatumlaw12_Copy.f x114000 x114001).bind fun bt128 => ((undo_Join.f k bt124.1 bt124.2 bt128.1 bt128.2).bind fun bt132 => ((commodatumlaw12_Copy.f x113000 x113001).bind fun bt138 => ((undo_Permutation.f k bt138.1 bt138.2).bind fun bt142 => ((commodatumlaw12_Copy.f x114000 x114001).bind fun bt146 => ((undo_Permutation.f k bt146.1 bt146.2).bind fun bt150 => ((undo_Permutation.f k bt132.1 bt132.2.1).bind fun bt154 => (if bt132.2.2 = 0 then (if bt142.2 = 0 then (if bt150.2 = 0 then (if bt154.2 = 0 then (if 0 ≤ x113000 then (if (bt142.1.length : Int) = (shl .i64 1 x113000) then (if (bt150.1.length : Int) = (bt142.1.length : Int) then (commodatumlaw12_UndoJoined.j1 k bt142.1 bt150.1 bt154.1 ((bt154.1.length : Int) != (bt142.1.length : Int))) else (commodatumlaw12_UndoJoined.j1 k bt142.1 bt150.1 bt154.1 true)) else (commodatumlaw12_UndoJoined.j1 k bt142.1 bt150.1 bt154.1 true)) else (none)) else (commodatumlaw12_UndoJoined.j1 k bt142.1 bt150.1 bt154.1 true)) else (commodatumlaw12_UndoJoined.j1 k bt142.1 bt150.1 bt154.1 true)) else (commodatumlaw12_UndoJoined.j1 k bt142.1 bt150.1 bt154.1 true)) else (commodatumlaw12_UndoJoined.j1 k bt142.1 bt150.1 bt154.1 true))))))))))
def commodatumlaw12_UndoJoined.j1 : Nat → List Int → List Int → List Int → Bool → Option (Bool)
 | 0, _, _, _, _ => none
 | k + 1, x7, x9, x11, x112 => if x112 = true then (none) else (commodatumlaw12_UndoJoined.l0 k x7 x9 x11 0)
def commodatumlaw12_UndoJoined.l0 : Nat → List Int → List Int → List Int → Int → Option (Bool)
 | 0, _, _, _, _ => none
 | k + 1, x7, x9, x11, x13 => if x13 < (x7.length : Int) then (if 0 ≤ x13 then (if (rd x7 x13) < 0 then (none) else (if (rd x7 x13) ≥ (x9.length : Int) then (none) else (if x13 < (x11.length : Int) then (if 0 ≤ (rd x7 x13) then (if (rd x7 x13) < (x9.length : Int) then (if (rd x11 x13) = (rd x9 (rd x7 x13)) then (commodatumlaw12_UndoJoined.l0 k x7 x9 x11 (wrap64 (x13 + 1))) else (none)) else (none)) else (none)) else (none)))) else (none)) else ((commodatumlaw12_Awake.f k).bind fun t163 => (some t163))
end
def commodatumlaw12_UndoJoined.f (k : Nat) (a0_0 : Int) (l0_1 : List (S67)) (a1_0 : Int) (l1_1 : List (S67)) : Option (Bool) := (commodatumlaw12_Wide.f a0_0 l0_1).bind fun t114 => (if t114 = true then (commodatumlaw12_UndoJoined.j0 k true a0_0 l0_1 a1_0 l1_1) else ((commodatumlaw12_Wide.f a1_0 l1_1).bind fun t115 => (if t115 = true then (commodatumlaw12_UndoJoined.j0 k true a0_0 l0_1 a1_0 l1_1) else ((commodatumref12_Valid.f k a0_0 l0_1).bind fun t116 => (if t116 = true then ((commodatumref12_Valid.f k a1_0 l1_1).bind fun t117 => (if t117 = true then (if a0_0 = a1_0 then (if a0_0 > 16 then (commodatumlaw12_UndoJoined.j0 k true a0_0 l0_1 a1_0 l1_1) else ((commodatumref12_Join.f a0_0 l0_1 a1_0 l1_1).bind fun bt118 => ((commodatumref12_Cost.f bt118.1 bt118.2 a0_0).bind fun t122 => (commodatumlaw12_UndoJoined.j0 k (decide (t122 > 400000)) a0_0 l0_1 a1_0 l1_1)))) else (commodatumlaw12_UndoJoined.j0 k true a0_0 l0_1 a1_0 l1_1)) else (commodatumlaw12_UndoJoined.j0 k true a0_0 l0_1 a1_0 l1_1))) else (commodatumlaw12_UndoJoined.j0 k true a0_0 l0_1 a1_0 l1_1))))))
def commodatumlaw12_UndoJoined.T1 : Bool × List (List Nat × List Nat) := (true, [([], []), ([0], [0]), ([1, 1], [1]), ([2], [2]), ([3, 2, 2], [2, 3]), ([2, 4], [2, 4]), ([5, 4], [5]), ([6], [6]), ([7, 6, 6], [6, 7]), ([8, 6], [6, 8]), ([6, 9], [6, 9]), ([10, 8], [10]), ([11], [11]), ([12, 11, 11], [11, 12]), ([13, 11], [11, 13]), ([11, 14], [11, 14]), ([15, 13], [15]), ([16], [16]), ([17, 16], [16, 17]), ([16], [16]), ([19, 16], [16, 19]), ([18, 20, 16], [16, 18, 20]), ([16, 21], [16, 21]), ([22, 16], [22]), ([23], [23]), ([24, 23], [23, 24]), ([25, 23], [23, 25]), ([23, 26], [23, 26]), ([27, 23], [27]), ([28], [28]), ([28], [28]), ([29, 30, 28, 28], [28, 29, 30]), ([28], [28]), ([32, 28], [28, 32]), ([31, 33, 31, 28], [28, 31, 33]), ([34, 28], [28, 34]), ([28, 35], [28, 35])])
def commodatumlaw12_UndoJoined.B1 : List Nat := [0, 1, 3, 7, 15, 31, 63, 127, 255, 511, 1023, 2047, 4095, 8191, 16383, 32767, 65535, 131071, 262143, 131071, 655359, 2097151, 4194303, 8388607, 16777215, 33554431, 67108863, 134217727, 268435455, 536870911, 536870911, 2147483647, 536870911, 4831838207, 17179869183, 34359738367, 68719476735]
theorem commodatumlaw12_UndoJoined.tab1 : rtab .any (opsOf Tryd.f9 1) = commodatumlaw12_UndoJoined.T1 := by kernel_rfl
theorem commodatumlaw12_UndoJoined.bits1 : waitsOk commodatumlaw12_UndoJoined.T1.2 commodatumlaw12_UndoJoined.B1 = true := by kernel_rfl
def commodatumlaw12_UndoJoined.T3 : Bool × List (List Nat × List Nat) := (true, [([], []), ([0], [0]), ([], []), ([2, 1], [2]), ([1, 3, 3], [1, 3]), ([4], [4]), ([5], [5]), ([5], [5]), ([], []), ([8, 6, 4, 0, 1, 2, 3, 4, 5, 6, 8], [6, 8]), ([7, 9, 0, 1, 2, 3, 4, 5, 6, 7, 8, 9], [7])])
def commodatumlaw12_UndoJoined.B3 : List Nat := [0, 1, 0, 7, 15, 31, 63, 63, 0, 383, 1023]
theorem commodatumlaw12_UndoJoined.tab3 : rtab .any (opsOf Tryd.f9 3) = commodatumlaw12_UndoJoined.T3 := by kernel_rfl
theorem commodatumlaw12_UndoJoined.bits3 : waitsOk commodatumlaw12_UndoJoined.T3.2 commodatumlaw12_UndoJoined.B3 = true := by kernel_rfl
def commodatumlaw12_UndoJoined.T12 : Bool × List (List Nat × List Nat) := (true, [([], []), ([], []), ([0, 1], [0, 1]), ([2], [2]), ([3], [3]), ([4], [4]), ([5], [5]), ([5], [5]), ([6, 7, 5], [5, 6, 7]), ([8, 5], [5, 8]), ([5], [5]), ([10, 5], [5, 10]), ([9, 11, 5], [5, 9, 11]), ([5, 12], [5, 12]), ([13, 5], [13]), ([14], [14]), ([14], [14]), ([15, 16, 14], [14, 15, 16]), ([17, 14], [14, 17]), ([14], [14]), ([14], [14]), ([14], [14]), ([20, 21, 14], [14, 20, 21]), ([22, 14], [14, 22]), ([19, 23, 14], [14, 19, 23]), ([24, 14], [14, 24]), ([18, 25, 14], [14, 18, 25]), ([14, 26], [14, 26])])
def commodatumlaw12_UndoJoined.B12 : List Nat := [0, 0, 3, 7, 15, 31, 63, 63, 255, 511, 63, 1087, 4095, 8191, 16383, 32767, 32767, 131071, 262143, 32767, 32767, 32767, 3178495, 7372799, 16285695, 33062911, 67108863, 134217727]
theorem commodatumlaw12_UndoJoined.tab12 : rtab .any (opsOf Tryd.f9 12) = commodatumlaw12_UndoJoined.T12 := by kernel_rfl
theorem commodatumlaw12_UndoJoined.bits12 : waitsOk commodatumlaw12_UndoJoined.T12.2 commodatumlaw12_UndoJoined.B12 = true := by kernel_rfl
theorem pSj2 {α : Type} : (∀ (l : List α) (i : Nat) (a : α), l.toArray.setIfInBounds i a = (l.set i a).toArray) ∧ (∀ (l : List α) (x y : α), (x :: l).set 0 y = y :: l) ∧ (∀ (l : List α) (x y : α) (n : Nat), (x :: l).set (n + 1) y = x :: l.set n y) :=
 ⟨fun _ _ _ => List.setIfInBounds_toArray .., fun _ _ _ => rfl, fun _ _ _ _ => rfl⟩
open Bool renaming true → T, false → F
open Go.Proofs.YthfhnkpipdbekaaDoorW.PrintWords renaming Kd.R_alloc → rA, Kd.R_drewN → rB, Kd.R_drew → rC, blk_drewN → bA, blk_drew → bB, blk_alloc → bC, below_set → sT, Aside0.mk → aM, pw_below_drewN → pD, below_drew1 → pE, below_alloc → pA, blk_below → bD, Kd.R_below → rD, blk_cell → bE, blk_frozen → bF, below_step → pS_, Kd.R_mono → rE, Kd.C_alloc → cA, Kd.C_drewN → cB, Kd.C_drew → cC, Kd.C_below → cD
abbrev z0j2 : Array Bool := #[F,F,F,F,F,F,F,F,F,F,F,F,F,F,F,F,F,F,F,F,F,F,F,F,F,F,F,F,F,F,F,F,F,F,F,F,F]
abbrev z1j2 : Array Bool := #[T,F,F,F,F,F,F,F,F,F,F,F,F,F,F,F,F,F,F,F,F,F,F,F,F,F,F,F,F,F,F,F,F,F,F,F,F]
abbrev z2j2 : Array Bool := #[T,T,F,F,F,F,F,F,F,F,F,F,F,F,F,F,F,F,F,F,F,F,F,F,F,F,F,F,F,F,F,F,F,F,F,F,F]
abbrev z3j2 : Array Bool := #[T,T,T,F,F,F,F,F,F,F,F,F,F,F,F,F,F,F,F,F,F,F,F,F,F,F,F,F,F,F,F,F,F,F,F,F,F]
abbrev z4j2 : Array Bool := #[T,T,T,T,F,F,F,F,F,F,F,F,F,F,F,F,F,F,F,F,F,F,F,F,F,F,F,F,F,F,F,F,F,F,F,F,F]
abbrev z5j2 : Array Bool := #[T,T,T,T,T,F,F,F,F,F,F,F,F,F,F,F,F,F,F,F,F,F,F,F,F,F,F,F,F,F,F,F,F,F,F,F,F]
abbrev z6j2 : Array Bool := #[T,T,T,T,T,T,F,F,F,F,F,F,F,F,F,F,F,F,F,F,F,F,F,F,F,F,F,F,F,F,F,F,F,F,F,F,F]
abbrev z7j2 : Array Bool := #[T,T,T,T,T,T,T,F,F,F,F,F,F,F,F,F,F,F,F,F,F,F,F,F,F,F,F,F,F,F,F,F,F,F,F,F,F]
abbrev z8j2 : Array Bool := #[T,T,T,T,T,T,T,T,F,F,F,F,F,F,F,F,F,F,F,F,F,F,F,F,F,F,F,F,F,F,F,F,F,F,F,F,F]
abbrev z9j2 : Array Bool := #[T,T,T,T,T,T,T,T,T,F,F,F,F,F,F,F,F,F,F,F,F,F,F,F,F,F,F,F,F,F,F,F,F,F,F,F,F]
abbrev z10j2 : Array Bool := #[T,T,T,T,T,T,T,T,T,T,F,F,F,F,F,F,F,F,F,F,F,F,F,F,F,F,F,F,F,F,F,F,F,F,F,F,F]
abbrev z11j2 : Array Bool := #[T,T,T,T,T,T,T,T,T,T,T,F,F,F,F,F,F,F,F,F,F,F,F,F,F,F,F,F,F,F,F,F,F,F,F,F,F]
abbrev z12j2 : Array Bool := #[T,T,T,T,T,T,T,T,T,T,T,T,F,F,F,F,F,F,F,F,F,F,F,F,F,F,F,F,F,F,F,F,F,F,F,F,F]
abbrev z13j2 : Array Bool := #[T,T,T,T,T,T,T,T,T,T,T,T,T,F,F,F,F,F,F,F,F,F,F,F,F,F,F,F,F,F,F,F,F,F,F,F,F]
abbrev z14j2 : Array Bool := #[T,T,T,T,T,T,T,T,T,T,T,T,T,T,F,F,F,F,F,F,F,F,F,F,F,F,F,F,F,F,F,F,F,F,F,F,F]
abbrev z15j2 : Array Bool := #[T,T,T,T,T,T,T,T,T,T,T,T,T,T,T,F,F,F,F,F,F,F,F,F,F,F,F,F,F,F,F,F,F,F,F,F,F]
abbrev z16j2 : Array Bool := #[T,T,T,T,T,T,T,T,T,T,T,T,T,T,T,T,F,F,F,F,F,F,F,F,F,F,F,F,F,F,F,F,F,F,F,F,F]
abbrev z17j2 : Array Bool := #[T,T,T,T,T,T,T,T,T,T,T,T,T,T,T,T,T,F,F,F,F,F,F,F,F,F,F,F,F,F,F,F,F,F,F,F,F]
abbrev z18j2 : Array Bool := #[T,T,T,T,T,T,T,T,T,T,T,T,T,T,T,T,T,T,F,F,F,F,F,F,F,F,F,F,F,F,F,F,F,F,F,F,F]
abbrev z19j2 : Array Bool := #[T,T,T,T,T,T,T,T,T,T,T,T,T,T,T,T,T,T,T,F,F,F,F,F,F,F,F,F,F,F,F,F,F,F,F,F,F]
abbrev z20j2 : Array Bool := #[T,T,T,T,T,T,T,T,T,T,T,T,T,T,T,T,T,T,T,T,F,F,F,F,F,F,F,F,F,F,F,F,F,F,F,F,F]
abbrev z21j2 : Array Bool := #[T,T,T,T,T,T,T,T,T,T,T,T,T,T,T,T,T,T,T,T,T,F,F,F,F,F,F,F,F,F,F,F,F,F,F,F,F]
abbrev z22j2 : Array Bool := #[T,T,T,T,T,T,T,T,T,T,T,T,T,T,T,T,T,T,T,T,T,T,F,F,F,F,F,F,F,F,F,F,F,F,F,F,F]
abbrev z23j2 : Array Bool := #[T,T,T,T,T,T,T,T,T,T,T,T,T,T,T,T,T,T,T,T,T,T,T,F,F,F,F,F,F,F,F,F,F,F,F,F,F]
abbrev z24j2 : Array Bool := #[T,T,T,T,T,T,T,T,T,T,T,T,T,T,T,T,T,T,T,T,T,T,T,T,F,F,F,F,F,F,F,F,F,F,F,F,F]
abbrev z25j2 : Array Bool := #[T,T,T,T,T,T,T,T,T,T,T,T,T,T,T,T,T,T,T,T,T,T,T,T,T,F,F,F,F,F,F,F,F,F,F,F,F]
abbrev z26j2 : Array Bool := #[T,T,T,T,T,T,T,T,T,T,T,T,T,T,T,T,T,T,T,T,T,T,T,T,T,T,F,F,F,F,F,F,F,F,F,F,F]
abbrev z27j2 : Array Bool := #[T,T,T,T,T,T,T,T,T,T,T,T,T,T,T,T,T,T,T,T,T,T,T,T,T,T,T,F,F,F,F,F,F,F,F,F,F]
abbrev z28j2 : Array Bool := #[T,T,T,T,T,T,T,T,T,T,T,T,T,T,T,T,T,T,T,T,T,T,T,T,T,T,T,T,F,F,F,F,F,F,F,F,F]
abbrev z29j2 : Array Bool := #[T,T,T,T,T,T,T,T,T,T,T,T,T,T,T,T,T,T,T,T,T,T,T,T,T,T,T,T,T,F,F,F,F,F,F,F,F]
abbrev z30j2 : Array Bool := #[T,T,T,T,T,T,T,T,T,T,T,T,T,T,T,T,T,T,T,T,T,T,T,T,T,T,T,T,T,T,F,F,F,F,F,F,F]
abbrev z31j2 : Array Bool := #[T,T,T,T,T,T,T,T,T,T,T,T,T,T,T,T,T,T,T,T,T,T,T,T,T,T,T,T,T,T,T,F,F,F,F,F,F]
abbrev z32j2 : Array Bool := #[T,T,T,T,T,T,T,T,T,T,T,T,T,T,T,T,T,T,T,T,T,T,T,T,T,T,T,T,T,T,T,T,F,F,F,F,F]
abbrev z33j2 : Array Bool := #[T,T,T,T,T,T,T,T,T,T,T,T,T,T,T,T,T,T,T,T,T,T,T,T,T,T,T,T,T,T,T,T,T,F,F,F,F]
abbrev z34j2 : Array Bool := #[T,T,T,T,T,T,T,T,T,T,T,T,T,T,T,T,T,T,T,T,T,T,T,T,T,T,T,T,T,T,T,T,T,T,F,F,F]
abbrev z35j2 : Array Bool := #[T,T,T,T,T,T,T,T,T,T,T,T,T,T,T,T,T,T,T,T,T,T,T,T,T,T,T,T,T,T,T,T,T,T,T,F,F]
abbrev z36j2 : Array Bool := #[T,T,T,T,T,T,T,T,T,T,T,T,T,T,T,T,T,T,T,T,T,T,T,T,T,T,T,T,T,T,T,T,T,T,T,T,F]
abbrev z37j2 : Array Bool := #[T,T,T,T,T,T,T,T,T,T,T,T,T,T,T,T,T,T,T,T,T,T,T,T,T,T,T,T,T,T,T,T,T,T,T,T,T]
abbrev z38j2 : Array Bool := #[T,T,T,T,T,T,T,T,T,T,T,T,T,T,T,T,T,T,F,T,F,F,F,F,F,F,F,F,F,F,F,F,F,F,F,F,F]
abbrev z39j2 : Array Bool := #[T,T,T,T,T,T,T,T,T,T,T,T,T,T,T,T,T,T,T,T,T,T,T,T,T,T,T,T,T,F,F,F,T,F,F,F,F]
abbrev z40j2 : Array Bool := #[T,T,T,T,T,T,T,T,T,T,T,T,T,T,T,T,T,T,T,T,T,T,T,T,T,T,T,T,T,T,F,F,T,F,F,F,F]
abbrev z41j2 : Array Bool := #[T,T,T,T,T,T,T,T,T,T,T,T,T,T,T,T,T,T,T,T,T,T,T,T,T,T,T,T,T,T,T,F,T,F,F,F,F]
abbrev z42j2 : Array Bool := #[T,T,T,T,T,T,T,T,T,T,T,T,T,T,T,T,T,T,T,T,T,T,T,T,T,T,T,T,T,T,T,F,T,T,F,F,F]
abbrev z43j2 : Array Bool := #[F,F,F,F,F,F,F,F,F,F,F]
abbrev z44j2 : Array Bool := #[T,F,F,F,F,F,F,F,F,F,F]
abbrev z45j2 : Array Bool := #[T,F,T,F,F,F,F,F,F,F,F]
abbrev z46j2 : Array Bool := #[T,T,T,T,T,T,T,T,T,F,F]
abbrev z47j2 : Array Bool := #[T,T,T,F,F,F,F,F,F,F,F]
abbrev z48j2 : Array Bool := #[T,F,T,F,F,F,F,F,T,F,F]
abbrev z49j2 : Array Bool := #[T,T,T,T,F,F,F,F,F,F,F]
abbrev z50j2 : Array Bool := #[T,T,T,F,F,F,F,F,T,F,F]
abbrev z51j2 : Array Bool := #[T,T,T,T,T,F,F,F,F,F,F]
abbrev z52j2 : Array Bool := #[T,T,T,T,F,F,F,F,T,F,F]
abbrev z53j2 : Array Bool := #[T,T,T,T,T,T,F,F,F,F,F]
abbrev z54j2 : Array Bool := #[T,T,T,T,T,T,T,F,F,F,F]
abbrev z55j2 : Array Bool := #[T,T,T,T,T,T,T,T,F,F,F]
abbrev z56j2 : Array Bool := #[T,T,T,T,T,F,F,F,T,F,F]
abbrev z57j2 : Array Bool := #[T,T,T,T,T,T,F,F,T,F,F]
abbrev z58j2 : Array Bool := #[T,T,T,T,T,T,T,F,T,F,F]
abbrev z59j2 : Array Bool := #[T,T,T,T,T,T,T,T,T,T,F]
abbrev z60j2 : Array Bool := #[T,T,T,T,T,T,T,T,T,T,T]
abbrev z61j2 : Array Bool := #[F,F,F,F,F,F,F,F,F,F,F,F,F,F,F,F,F,F,F,F,F,F,F,F,F,F,F,F]
abbrev z62j2 : Array Bool := #[T,F,F,F,F,F,F,F,F,F,F,F,F,F,F,F,F,F,F,F,F,F,F,F,F,F,F,F]
abbrev z63j2 : Array Bool := #[T,T,F,F,F,F,F,F,F,F,F,F,F,F,F,F,F,F,F,F,F,F,F,F,F,F,F,F]
abbrev z64j2 : Array Bool := #[T,T,T,F,F,F,F,F,F,F,F,F,F,F,F,F,F,F,F,F,F,F,F,F,F,F,F,F]
abbrev z65j2 : Array Bool := #[T,T,T,T,F,F,F,F,F,F,F,F,F,F,F,F,F,F,F,F,F,F,F,F,F,F,F,F]
abbrev z66j2 : Array Bool := #[T,T,T,T,T,F,F,F,F,F,F,F,F,F,F,F,F,F,F,F,F,F,F,F,F,F,F,F]
abbrev z67j2 : Array Bool := #[T,T,T,T,T,T,F,F,F,F,F,F,F,F,F,F,F,F,F,F,F,F,F,F,F,F,F,F]
abbrev z68j2 : Array Bool := #[T,T,T,T,T,T,T,F,F,F,F,F,F,F,F,F,F,F,F,F,F,F,F,F,F,F,F,F]
abbrev z69j2 : Array Bool := #[T,T,T,T,T,T,T,T,F,F,F,F,F,F,F,F,F,F,F,F,F,F,F,F,F,F,F,F]
abbrev z70j2 : Array Bool := #[T,T,T,T,T,T,T,T,T,F,F,F,F,F,F,F,F,F,F,F,F,F,F,F,F,F,F,F]
abbrev z71j2 : Array Bool := #[T,T,T,T,T,T,T,T,T,F,T,F,F,F,F,F,F,F,F,F,F,F,F,F,F,F,F,F]
abbrev z72j2 : Array Bool := #[T,T,T,T,T,T,T,T,T,F,T,T,F,F,F,F,F,F,F,F,F,F,F,F,F,F,F,F]
abbrev z73j2 : Array Bool := #[T,T,T,T,T,T,T,T,T,T,T,T,F,F,F,F,F,F,F,F,F,F,F,F,F,F,F,F]
abbrev z74j2 : Array Bool := #[T,T,T,T,T,T,T,T,T,T,T,T,T,F,F,F,F,F,F,F,F,F,F,F,F,F,F,F]
abbrev z75j2 : Array Bool := #[T,T,T,T,T,T,T,T,T,T,T,T,T,T,F,F,F,F,F,F,F,F,F,F,F,F,F,F]
abbrev z76j2 : Array Bool := #[T,T,T,T,T,T,T,T,T,T,T,T,T,T,T,F,F,F,F,F,F,F,F,F,F,F,F,F]
abbrev z77j2 : Array Bool := #[T,T,T,T,T,T,T,T,T,T,T,T,T,T,T,T,F,F,F,F,F,F,F,F,F,F,F,F]
abbrev z78j2 : Array Bool := #[T,T,T,T,T,T,T,T,T,T,T,T,T,T,T,T,T,F,F,F,F,F,F,F,F,F,F,F]
abbrev z79j2 : Array Bool := #[T,T,T,T,T,T,T,T,T,T,T,T,T,T,T,T,T,T,F,F,F,F,F,F,F,F,F,F]
abbrev z80j2 : Array Bool := #[T,T,T,T,T,T,T,T,T,T,T,T,T,T,T,T,T,T,F,T,F,F,F,F,F,F,F,F]
abbrev z81j2 : Array Bool := #[T,T,T,T,T,T,T,T,T,T,T,T,T,T,T,T,T,T,F,T,T,F,F,F,F,F,F,F]
abbrev z82j2 : Array Bool := #[T,T,T,T,T,T,T,T,T,T,T,T,T,T,T,T,T,T,F,T,T,T,F,F,F,F,F,F]
abbrev z83j2 : Array Bool := #[T,T,T,T,T,T,T,T,T,T,T,T,T,T,T,T,T,T,F,T,T,T,T,F,F,F,F,F]
abbrev z84j2 : Array Bool := #[T,T,T,T,T,T,T,T,T,T,T,T,T,T,T,T,T,T,T,T,T,T,T,F,F,F,F,F]
abbrev z85j2 : Array Bool := #[T,T,T,T,T,T,T,T,T,T,T,T,T,T,T,T,T,T,T,T,T,T,T,T,F,F,F,F]
abbrev z86j2 : Array Bool := #[T,T,T,T,T,T,T,T,T,T,T,T,T,T,T,T,T,T,T,T,T,T,T,T,T,F,F,F]
abbrev z87j2 : Array Bool := #[T,T,T,T,T,T,T,T,T,T,T,T,T,T,T,T,T,T,T,T,T,T,T,T,T,T,F,F]
abbrev z88j2 : Array Bool := #[T,T,T,T,T,T,T,T,T,T,T,T,T,T,T,T,T,T,T,T,T,T,T,T,T,T,T,F]
abbrev z89j2 : Array Bool := #[T,T,T,T,T,T,T,T,T,T,T,T,T,T,T,T,T,T,T,T,T,T,T,T,T,T,T,T]
set_option maxHeartbeats 8000000 in
set_option maxRecDepth 100000 in
theorem commodatumlaw12_UndoJoined.calls (k : Nat) (a0_0 : Int) (A0_1 : Option Addr) (c0_1 : Nat) (l0_1 : List (S67)) (a1_0 : Int) (A1_1 : Option Addr) (c1_1 : Nat) (l1_1 : List (S67)) (r : Bool) (w : World) (hr0_1 : Kd.C k67 w A0_1 l0_1.length l0_1) (hc0_1 : l0_1.length ≤ c0_1) (hr1_1 : Kd.C k67 w A1_1 l1_1.length l1_1) (hc1_1 : l1_1.length ≤ c1_1) (hlay : Laid w) (h : commodatumlaw12_UndoJoined.f k a0_0 l0_1 a1_0 l1_1 = some r) :
  Calls Tryd.prog 9 #[.agg #[.int .i64 a0_0, .slice A0_1 l0_1.length c0_1], .agg #[.int .i64 a1_0, .slice A1_1 l1_1.length c1_1]] w fun e w' => e = .returned (.bool r) ∧ Below w.heap.size w w' := by
 have hu25 := Tryd.underlying25
 have HR0_1 := aM hr0_1
 have HC0_1 := aM hc0_1
 clear hr0_1 hc0_1
 have HR1_1 := aM hr1_1
 have HC1_1 := aM hc1_1
 clear hr1_1 hc1_1
 have HB := aM (Below.refl w.heap.size w)
 have HLAY := aM hlay
 clear hlay
 have H : ((commodatumlaw12_Wide.f a0_0 l0_1).bind fun t114 => (if t114 = true then (commodatumlaw12_UndoJoined.j0 k true a0_0 l0_1 a1_0 l1_1) else ((commodatumlaw12_Wide.f a1_0 l1_1).bind fun t115 => (if t115 = true then (commodatumlaw12_UndoJoined.j0 k true a0_0 l0_1 a1_0 l1_1) else ((commodatumref12_Valid.f k a0_0 l0_1).bind fun t116 => (if t116 = true then ((commodatumref12_Valid.f k a1_0 l1_1).bind fun t117 => (if t117 = true then (if a0_0 = a1_0 then (if a0_0 > 16 then (commodatumlaw12_UndoJoined.j0 k true a0_0 l0_1 a1_0 l1_1) else ((commodatumref12_Join.f a0_0 l0_1 a1_0 l1_1).bind fun bt118 => ((commodatumref12_Cost.f bt118.1 bt118.2 a0_0).bind fun t122 => (commodatumlaw12_UndoJoined.j0 k (decide (t122 > 400000)) a0_0 l0_1 a1_0 l1_1)))) else (commodatumlaw12_UndoJoined.j0 k true a0_0 l0_1 a1_0 l1_1)) else (commodatumlaw12_UndoJoined.j0 k true a0_0 l0_1 a1_0 l1_1))) else (commodatumlaw12_UndoJoined.j0 k true a0_0 l0_1 a1_0 l1_1))))))) = some r := h
 clear h
 have HC3 := aM H
 clear H
 go_enter Tryd.func9, Tryd.ntmps9
 go_upto_region 1 with (first | ((with_reducible refine gate_dst (N := 2) rfl ?_); (try (refine gate_guard (by rfl) ?_; dsimp only)); refine box_event ?hg (N := 2) ?hd (cs := #[.int .i64 a0_0, .slice A0_1 l0_1.length c0_1]) (t := 25) ?hr ?_; (case hd => rfl); (case hg => rfl); (case hr => first | (go_simp; done) | (go_simp; rfl)); intro gb112 hg w4 hbox hb; have B12 := aM (hbox); have GW112 := aM ((by rw [hg]; exact (below_size (by (with_reducible apply_rules [HB.out, pA, pD, pE]))) : w.heap.size ≤ gb112)); have GE112 := aM ((by rw [hg]; exact (below_size (by (with_reducible apply_rules [HB.out, pA, pD, pE]))) : w.heap.size ≤ gb112)); replace HB := aM (pS_ (by (with_reducible apply_rules [HB.out, pA, pD, pE])) hb); clear hb hbox hg) | ((with_reducible refine gate_dst (N := 3) rfl ?_); (try (refine gate_guard (by rfl) ?_; dsimp only)); refine box_event ?hg (N := 3) ?hd (cs := #[.int .i64 a1_0, .slice A1_1 l1_1.length c1_1]) (t := 25) ?hr ?_; (case hd => rfl); (case hg => rfl); (case hr => first | (go_simp; done) | (go_simp; rfl)); intro gb113 hg w5 hbox hb; have B13 := aM (hbox); have GW113 := aM ((by rw [hg]; exact (below_size (by (with_reducible apply_rules [HB.out, pA, pD, pE, sT, GE112.out]))) : w.heap.size ≤ gb113)); have GE113 := aM ((by rw [hg]; exact (below_size (by (with_reducible apply_rules [HB.out, pA, pD, pE, sT, GE112.out]))) : w.heap.size ≤ gb113)); replace HB := aM (pS_ (by (with_reducible apply_rules [HB.out, pA, pD, pE, sT, GE112.out])) hb); have NB112_113 := aM ((by rw [hg]; exact Nat.ne_of_lt (blk_lt (g := gb112) (o := .cells #[.int .i64 a0_0, .slice A0_1 l0_1.length c0_1] 25 (0, 0)) (by with_reducible apply_rules [B12.out, bA, bB, bC])) : gb112 ≠ gb113)); have NB113_112 := aM ((by rw [hg]; exact Nat.ne_of_gt (blk_lt (g := gb112) (o := .cells #[.int .i64 a0_0, .slice A0_1 l0_1.length c0_1] 25 (0, 0)) (by with_reducible apply_rules [B12.out, bA, bB, bC])) : gb113 ≠ gb112)); replace B12 := aM (bD (g := gb112) (o := .cells #[.int .i64 a0_0, .slice A0_1 l0_1.length c0_1] 25 (0, 0)) (by with_reducible apply_rules [B12.out, bA, bB, bC]) hb); clear hb hbox hg))
 (try simp only [Act.put, List.setIfInBounds_toArray, List.set_cons_zero, List.set_cons_succ])
 go_cut [50] (fun v50 wc => ∃ (kq : Nat) (x50_2 : Bool), v50 = .bool x50_2 ∧ Aside0 (commodatumlaw12_UndoJoined.j0 kq x50_2 a0_0 l0_1 a1_0 l1_1 = some r) ∧ Aside0 (kq ≤ k) ∧ Aside0 (wc.heap[gb112]? = some (.cells #[.int .i64 a0_0, (.slice A0_1 l0_1.length c0_1)] 25 (0, 0))) ∧ Aside0 (wc.heap[gb113]? = some (.cells #[.int .i64 a1_0, (.slice A1_1 l1_1.length c1_1)] 25 (0, 0))) ∧ Aside0 (Below w.heap.size w wc))
 case first =>
  have H := HC3.out
  clear HC3
  replace H := Option.bind_eq_some_iff.mp H
  obtain ⟨t114, A60, H⟩ := H
  replace H : (if t114 = true then (commodatumlaw12_UndoJoined.j0 k true a0_0 l0_1 a1_0 l1_1) else ((commodatumlaw12_Wide.f a1_0 l1_1).bind fun t115 => (if t115 = true then (commodatumlaw12_UndoJoined.j0 k true a0_0 l0_1 a1_0 l1_1) else ((commodatumref12_Valid.f k a0_0 l0_1).bind fun t116 => (if t116 = true then ((commodatumref12_Valid.f k a1_0 l1_1).bind fun t117 => (if t117 = true then (if a0_0 = a1_0 then (if a0_0 > 16 then (commodatumlaw12_UndoJoined.j0 k true a0_0 l0_1 a1_0 l1_1) else ((commodatumref12_Join.f a0_0 l0_1 a1_0 l1_1).bind fun bt118 => ((commodatumref12_Cost.f bt118.1 bt118.2 a0_0).bind fun t122 => (commodatumlaw12_UndoJoined.j0 k (decide (t122 > 400000)) a0_0 l0_1 a1_0 l1_1)))) else (commodatumlaw12_UndoJoined.j0 k true a0_0 l0_1 a1_0 l1_1)) else (commodatumlaw12_UndoJoined.j0 k true a0_0 l0_1 a1_0 l1_1))) else (commodatumlaw12_UndoJoined.j0 k true a0_0 l0_1 a1_0 l1_1)))))) = some r := H
  have A6 := aM A60
  clear A60
  by_cases c7 : t114 = true
  ·subst c7
   have H1 : (commodatumlaw12_UndoJoined.j0 k true a0_0 l0_1 a1_0 l1_1) = some r := by rw [if_pos rfl] at H; exact H
   clear H
   have H := H1
   clear H1
   have H' := aM H
   clear H
   try go_wp2
   replace B12 := aM (bB B12.out)
   replace B13 := aM (bB B13.out)
   replace HB := aM (pE HB.out)
   refine start_ (n := 37) (S := fun w' => w'.cell? ⟨gb112, 0, none⟩ = some (.int .i64 a0_0) ∧ w'.cell? ⟨gb112, 1, none⟩ = some (.slice A0_1 l0_1.length c0_1)) (ds := []) z0j2 (by kernel_rfl) rfl rfl ⟨(bE B12.out 0).trans rfl, (bE B12.out 1).trans rfl⟩ (fun hHeld => ?_); refine with_tabW commodatumlaw12_UndoJoined.tab1 commodatumlaw12_UndoJoined.bits1 (fun HT_ HW_ => ?_)
   generalize w5.drew = w8 at B12 B13 HB hHeld ⊢
   refine take_ (i := 0) (N := some 14) (v := ?_) (a' := ?_) z1j2 rfl rfl (take_ofW HT_.out HW_.out (by kernel_rfl)) (fun _ _ _ h => h) (Or.inl ⟨by rfl, ?_⟩) hHeld ?_ ?_; rotate_left; (rintro w' ⟨s0, s1⟩; go_simp; with_reducible rfl); rotate_left; (simp only [Act.put, pSj2, i64_w]; rfl)
   refine one_ (i := 1) (N := some 15) z2j2 rfl rfl (one_of HT_.out (by kernel_rfl)) (by decide) (fun K hK => ?_)
   refine goes_ Tryd.func17 (by kernel_rfl) rfl #[.agg #[.int .i64 a0_0, .slice A0_1 l0_1.length c0_1]] (by rfl) rfl rfl (by (try simp only [List.map_toArray, List.map_cons, List.map_nil]); first | done | rfl | (simp only [List.length_drop, List.length_take]; rfl)) ?_
   with_reducible refine (commodatumlaw12_Wide.calls a0_0 _ _ l0_1 true _ ?side1 ?side2 A6.out).mono ?_
   (case side1 => with_reducible apply_rules [(cD HR0_1.out HB.out), cA, cB, cC])
   (case side2 => exact HC0_1.out)
   rintro e w9 ⟨rfl, hb⟩
   refine ⟨_, rfl, ?_⟩
   replace B12 := aM (bD (g := gb112) (o := .cells #[.int .i64 a0_0, .slice A0_1 l0_1.length c0_1] 25 (0, 0)) (by with_reducible apply_rules [B12.out, bA, bB, bC]) hb)
   replace B13 := aM (bD (g := gb113) (o := .cells #[.int .i64 a1_0, .slice A1_1 l1_1.length c1_1] 25 (0, 0)) (by with_reducible apply_rules [B13.out, bA, bB, bC]) hb)
   replace HB := aM (pS_ (by (with_reducible apply_rules [HB.out, pA, pD, pE, sT, GE112.out, GE113.out])) hb)
   (try clear hb)
   (try clear hb2)
   (try clear hk)
   (try clear hi)
   refine hK.out _ _ ⟨(bE B12.out 0).trans rfl, (bE B12.out 1).trans rfl⟩ (fun hHeld => ?_)
   clear hK K
   refine norm_ (a' := ?_) ?_ ?_
   rotate_left
   ·show Act.put _ (some 15) _ = _
    simp only [Act.put, pSj2, i64_w]
    rfl
   refine pure_ (i := 2) (N := some 16) (v := ?_) (a' := ?_) z3j2 rfl rfl (any_of HT_.out (by kernel_rfl)) (fun _ _ _ h => h) (Or.inl ⟨by rfl, ?_⟩) ?_ ?_; rotate_left; (intro w'; go_simp; with_reducible rfl); rotate_left; (simp only [Act.put, pSj2, i64_w]; rfl)
   refine pure_ (i := 3) (N := some 17) (v := undef) (a' := ?_) z4j2 rfl rfl (any_of HT_.out (by kernel_rfl)) (fun _ _ _ h => h) (Or.inr ⟨by rfl, rfl⟩) ?_ ?_
   rotate_left
   ·simp only [Act.put, pSj2, i64_w]
    rfl
   refine pure_ (i := 4) (N := some 18) (v := undef) (a' := ?_) z5j2 rfl rfl (any_of HT_.out (by kernel_rfl)) (fun _ _ _ h => h) (Or.inr ⟨by rfl, rfl⟩) ?_ ?_
   rotate_left
   ·simp only [Act.put, pSj2, i64_w]
    rfl
   refine pure_ (i := 5) (N := some 19) (v := ?_) (a' := ?_) z6j2 rfl rfl (any_of HT_.out (by kernel_rfl)) (fun _ _ _ h => h) (Or.inl ⟨by rfl, ?_⟩) ?_ ?_; rotate_left; (intro w'; go_simp; with_reducible rfl); rotate_left; (simp only [Act.put, pSj2, i64_w]; rfl)
   refine pure_ (i := 6) (N := some 20) (v := ?_) (a' := ?_) z7j2 rfl rfl (any_of HT_.out (by kernel_rfl)) (fun _ _ _ h => h) (Or.inl ⟨by rfl, ?_⟩) ?_ ?_; rotate_left; (intro w'; go_simp; with_reducible rfl); rotate_left; (simp only [Act.put, pSj2, i64_w]; rfl)
   refine pure_ (i := 7) (N := some 21) (v := undef) (a' := ?_) z8j2 rfl rfl (any_of HT_.out (by kernel_rfl)) (fun _ _ _ h => h) (Or.inr ⟨by rfl, rfl⟩) ?_ ?_
   rotate_left
   ·simp only [Act.put, pSj2, i64_w]
    rfl
   refine pure_ (i := 8) (N := some 22) (v := undef) (a' := ?_) z9j2 rfl rfl (any_of HT_.out (by kernel_rfl)) (fun _ _ _ h => h) (Or.inr ⟨by rfl, rfl⟩) ?_ ?_
   rotate_left
   ·simp only [Act.put, pSj2, i64_w]
    rfl
   refine pure_ (i := 9) (N := some 23) (v := undef) (a' := ?_) z10j2 rfl rfl (any_of HT_.out (by kernel_rfl)) (fun _ _ _ h => h) (Or.inr ⟨by rfl, rfl⟩) ?_ ?_
   rotate_left
   ·simp only [Act.put, pSj2, i64_w]
    rfl
   refine pure_ (i := 10) (N := some 24) (v := ?_) (a' := ?_) z11j2 rfl rfl (any_of HT_.out (by kernel_rfl)) (fun _ _ _ h => h) (Or.inl ⟨by rfl, ?_⟩) ?_ ?_; rotate_left; (intro w'; go_simp; with_reducible rfl); rotate_left; (simp only [Act.put, pSj2, i64_w]; rfl)
   refine pure_ (i := 11) (N := some 25) (v := ?_) (a' := ?_) z12j2 rfl rfl (any_of HT_.out (by kernel_rfl)) (fun _ _ _ h => h) (Or.inl ⟨by rfl, ?_⟩) ?_ ?_; rotate_left; (intro w'; go_simp; with_reducible rfl); rotate_left; (simp only [Act.put, pSj2, i64_w]; rfl)
   refine pure_ (i := 12) (N := some 26) (v := undef) (a' := ?_) z13j2 rfl rfl (any_of HT_.out (by kernel_rfl)) (fun _ _ _ h => h) (Or.inr ⟨by rfl, rfl⟩) ?_ ?_
   rotate_left
   ·simp only [Act.put, pSj2, i64_w]
    rfl
   refine pure_ (i := 13) (N := some 27) (v := undef) (a' := ?_) z14j2 rfl rfl (any_of HT_.out (by kernel_rfl)) (fun _ _ _ h => h) (Or.inr ⟨by rfl, rfl⟩) ?_ ?_
   rotate_left
   ·simp only [Act.put, pSj2, i64_w]
    rfl
   refine pure_ (i := 14) (N := some 28) (v := undef) (a' := ?_) z15j2 rfl rfl (any_of HT_.out (by kernel_rfl)) (fun _ _ _ h => h) (Or.inr ⟨by rfl, rfl⟩) ?_ ?_
   rotate_left
   ·simp only [Act.put, pSj2, i64_w]
    rfl
   refine pure_ (i := 15) (N := some 29) (v := ?_) (a' := ?_) z16j2 rfl rfl (any_of HT_.out (by kernel_rfl)) (fun _ _ _ h => h) (Or.inl ⟨by rfl, ?_⟩) ?_ ?_; rotate_left; (intro w'; go_simp; with_reducible rfl); rotate_left; (simp only [Act.put, pSj2, i64_w]; rfl)
   refine pure_ (i := 16) (N := some 30) (v := ?_) (a' := ?_) z17j2 rfl rfl (any_of HT_.out (by kernel_rfl)) (fun _ _ _ h => h) (Or.inl ⟨by rfl, ?_⟩) ?_ ?_; rotate_left; (intro w'; go_simp; with_reducible rfl); rotate_left; (simp only [Act.put, pSj2, i64_w]; rfl)
   refine pure_ (i := 17) (N := some 31) (v := undef) (a' := ?_) z18j2 rfl rfl (any_of HT_.out (by kernel_rfl)) (fun _ _ _ h => h) (Or.inr ⟨by rfl, rfl⟩) ?_ ?_
   rotate_left
   ·simp only [Act.put, pSj2, i64_w]
    rfl
   refine pure_ (i := 18) (N := some 32) (v := undef) (a' := ?_) z19j2 rfl rfl (any_of HT_.out (by kernel_rfl)) (fun _ _ _ h => h) (Or.inr ⟨by rfl, rfl⟩) ?_ ?_
   rotate_left
   ·simp only [Act.put, pSj2, i64_w]
    rfl
   refine pure_ (i := 19) (N := some 33) (v := undef) (a' := ?_) z20j2 rfl rfl (any_of HT_.out (by kernel_rfl)) (fun _ _ _ h => h) (Or.inr ⟨by rfl, rfl⟩) ?_ ?_
   rotate_left
   ·simp only [Act.put, pSj2, i64_w]
    rfl
   refine pure_ (i := 20) (N := some 34) (v := undef) (a' := ?_) z21j2 rfl rfl (any_of HT_.out (by kernel_rfl)) (fun _ _ _ h => h) (Or.inr ⟨by rfl, rfl⟩) ?_ ?_
   rotate_left
   ·simp only [Act.put, pSj2, i64_w]
    rfl
   refine pure_ (i := 21) (N := some 35) (v := undef) (a' := ?_) z22j2 rfl rfl (any_of HT_.out (by kernel_rfl)) (fun _ _ _ h => h) (Or.inr ⟨by rfl, rfl⟩) ?_ ?_
   rotate_left
   ·simp only [Act.put, pSj2, i64_w]
    rfl
   refine pure_ (i := 22) (N := some 36) (v := ?_) (a' := ?_) z23j2 rfl rfl (any_of HT_.out (by kernel_rfl)) (fun _ _ _ h => h) (Or.inl ⟨by rfl, ?_⟩) ?_ ?_; rotate_left; (intro w'; go_simp; with_reducible rfl); rotate_left; (simp only [Act.put, pSj2, i64_w]; rfl)
   refine pure_ (i := 23) (N := some 37) (v := ?_) (a' := ?_) z24j2 rfl rfl (any_of HT_.out (by kernel_rfl)) (fun _ _ _ h => h) (Or.inl ⟨by rfl, ?_⟩) ?_ ?_; rotate_left; (intro w'; go_simp; with_reducible rfl); rotate_left; (simp only [Act.put, pSj2, i64_w]; rfl)
   refine pure_ (i := 24) (N := some 38) (v := undef) (a' := ?_) z25j2 rfl rfl (any_of HT_.out (by kernel_rfl)) (fun _ _ _ h => h) (Or.inr ⟨by rfl, rfl⟩) ?_ ?_
   rotate_left
   ·simp only [Act.put, pSj2, i64_w]
    rfl
   refine pure_ (i := 25) (N := some 39) (v := undef) (a' := ?_) z26j2 rfl rfl (any_of HT_.out (by kernel_rfl)) (fun _ _ _ h => h) (Or.inr ⟨by rfl, rfl⟩) ?_ ?_
   rotate_left
   ·simp only [Act.put, pSj2, i64_w]
    rfl
   refine pure_ (i := 26) (N := some 40) (v := undef) (a' := ?_) z27j2 rfl rfl (any_of HT_.out (by kernel_rfl)) (fun _ _ _ h => h) (Or.inr ⟨by rfl, rfl⟩) ?_ ?_
   rotate_left
   ·simp only [Act.put, pSj2, i64_w]
    rfl
   refine pure_ (i := 27) (N := some 41) (v := ?_) (a' := ?_) z28j2 rfl rfl (any_of HT_.out (by kernel_rfl)) (fun _ _ _ h => h) (Or.inl ⟨by rfl, ?_⟩) ?_ ?_; rotate_left; (intro w'; go_simp; with_reducible rfl); rotate_left; (simp only [Act.put, pSj2, i64_w]; rfl)
   refine pure_ (i := 28) (N := some 42) (v := ?_) (a' := ?_) z29j2 rfl rfl (any_of HT_.out (by kernel_rfl)) (fun _ _ _ h => h) (Or.inl ⟨by rfl, ?_⟩) ?_ ?_; rotate_left; (intro w'; go_simp; with_reducible rfl); rotate_left; (simp only [Act.put, pSj2, i64_w]; rfl)
   refine pure_ (i := 29) (N := some 43) (v := undef) (a' := ?_) z30j2 rfl rfl (any_of HT_.out (by kernel_rfl)) (fun _ _ _ h => h) (Or.inr ⟨by rfl, rfl⟩) ?_ ?_
   rotate_left
   ·simp only [Act.put, pSj2, i64_w]
    rfl
   refine pure_ (i := 30) (N := some 44) (v := undef) (a' := ?_) z31j2 rfl rfl (any_of HT_.out (by kernel_rfl)) (fun _ _ _ h => h) (Or.inr ⟨by rfl, rfl⟩) ?_ ?_
   rotate_left
   ·simp only [Act.put, pSj2, i64_w]
    rfl
   refine pure_ (i := 31) (N := some 45) (v := undef) (a' := ?_) z32j2 rfl rfl (any_of HT_.out (by kernel_rfl)) (fun _ _ _ h => h) (Or.inr ⟨by rfl, rfl⟩) ?_ ?_
   rotate_left
   ·simp only [Act.put, pSj2, i64_w]
    rfl
   refine pure_ (i := 32) (N := some 46) (v := undef) (a' := ?_) z33j2 rfl rfl (any_of HT_.out (by kernel_rfl)) (fun _ _ _ h => h) (Or.inr ⟨by rfl, rfl⟩) ?_ ?_
   rotate_left
   ·simp only [Act.put, pSj2, i64_w]
    rfl
   refine pure_ (i := 33) (N := some 47) (v := undef) (a' := ?_) z34j2 rfl rfl (any_of HT_.out (by kernel_rfl)) (fun _ _ _ h => h) (Or.inr ⟨by rfl, rfl⟩) ?_ ?_
   rotate_left
   ·simp only [Act.put, pSj2, i64_w]
    rfl
   refine pure_ (i := 34) (N := some 48) (v := undef) (a' := ?_) z35j2 rfl rfl (any_of HT_.out (by kernel_rfl)) (fun _ _ _ h => h) (Or.inr ⟨by rfl, rfl⟩) ?_ ?_
   rotate_left
   ·simp only [Act.put, pSj2, i64_w]
    rfl
   refine pure_ (i := 35) (N := some 49) (v := undef) (a' := ?_) z36j2 rfl rfl (any_of HT_.out (by kernel_rfl)) (fun _ _ _ h => h) (Or.inr ⟨by rfl, rfl⟩) ?_ ?_
   rotate_left
   ·simp only [Act.put, pSj2, i64_w]
    rfl
   refine pure_ (i := 36) (N := some 50) (v := ?_) (a' := ?_) z37j2 rfl rfl (any_of HT_.out (by kernel_rfl)) (fun _ _ _ h => h) (Or.inl ⟨by rfl, ?_⟩) ?_ ?_; rotate_left; (intro w'; go_simp; with_reducible rfl); rotate_left; (simp only [Act.put, pSj2, i64_w]; rfl)
   refine done_ (done_of HT_.out (by kernel_rfl)) ?_
   try go_wp2
   go_meet
   case rel => exact ⟨_, (true), (by first | rfl | (simp; done) | (simp [*]; done)), H', ⟨by first | omega | exact Nat.le_refl _⟩, ⟨by with_reducible apply_rules [B12.out, bA, bB, bC]⟩, ⟨by with_reducible apply_rules [B13.out, bA, bB, bC]⟩, ⟨by (with_reducible apply_rules [HB.out, pA, pD, pE, sT, GE112.out, GE113.out])⟩⟩
  ·replace c7 := Bool.eq_false_iff.mpr c7
   subst c7
   have H1 : ((commodatumlaw12_Wide.f a1_0 l1_1).bind fun t115 => (if t115 = true then (commodatumlaw12_UndoJoined.j0 k true a0_0 l0_1 a1_0 l1_1) else ((commodatumref12_Valid.f k a0_0 l0_1).bind fun t116 => (if t116 = true then ((commodatumref12_Valid.f k a1_0 l1_1).bind fun t117 => (if t117 = true then (if a0_0 = a1_0 then (if a0_0 > 16 then (commodatumlaw12_UndoJoined.j0 k true a0_0 l0_1 a1_0 l1_1) else ((commodatumref12_Join.f a0_0 l0_1 a1_0 l1_1).bind fun bt118 => ((commodatumref12_Cost.f bt118.1 bt118.2 a0_0).bind fun t122 => (commodatumlaw12_UndoJoined.j0 k (decide (t122 > 400000)) a0_0 l0_1 a1_0 l1_1)))) else (commodatumlaw12_UndoJoined.j0 k true a0_0 l0_1 a1_0 l1_1)) else (commodatumlaw12_UndoJoined.j0 k true a0_0 l0_1 a1_0 l1_1))) else (commodatumlaw12_UndoJoined.j0 k true a0_0 l0_1 a1_0 l1_1))))) = some r := by rw [if_neg (show ¬ (false = true) by decide)] at H; exact H
   clear H
   have H := H1
   clear H1
   replace H := Option.bind_eq_some_iff.mp H
   obtain ⟨t115, A100, H⟩ := H
   replace H : (if t115 = true then (commodatumlaw12_UndoJoined.j0 k true a0_0 l0_1 a1_0 l1_1) else ((commodatumref12_Valid.f k a0_0 l0_1).bind fun t116 => (if t116 = true then ((commodatumref12_Valid.f k a1_0 l1_1).bind fun t117 => (if t117 = true then (if a0_0 = a1_0 then (if a0_0 > 16 then (commodatumlaw12_UndoJoined.j0 k true a0_0 l0_1 a1_0 l1_1) else ((commodatumref12_Join.f a0_0 l0_1 a1_0 l1_1).bind fun bt118 => ((commodatumref12_Cost.f bt118.1 bt118.2 a0_0).bind fun t122 => (commodatumlaw12_UndoJoined.j0 k (decide (t122 > 400000)) a0_0 l0_1 a1_0 l1_1)))) else (commodatumlaw12_UndoJoined.j0 k true a0_0 l0_1 a1_0 l1_1)) else (commodatumlaw12_UndoJoined.j0 k true a0_0 l0_1 a1_0 l1_1))) else (commodatumlaw12_UndoJoined.j0 k true a0_0 l0_1 a1_0 l1_1)))) = some r := H
   have A10 := aM A100
   clear A100
   by_cases c11 : t115 = true
   ·subst c11
    have H1 : (commodatumlaw12_UndoJoined.j0 k true a0_0 l0_1 a1_0 l1_1) = some r := by rw [if_pos rfl] at H; exact H
    clear H
    have H := H1
    clear H1
    have H' := aM H
    clear H
    try go_wp2
    replace B12 := aM (bB B12.out)
    replace B13 := aM (bB B13.out)
    replace HB := aM (pE HB.out)
    refine start_ (n := 37) (S := fun w' => w'.cell? ⟨gb112, 0, none⟩ = some (.int .i64 a0_0) ∧ w'.cell? ⟨gb112, 1, none⟩ = some (.slice A0_1 l0_1.length c0_1) ∧ w'.cell? ⟨gb113, 0, none⟩ = some (.int .i64 a1_0) ∧ w'.cell? ⟨gb113, 1, none⟩ = some (.slice A1_1 l1_1.length c1_1)) (ds := []) z0j2 (by kernel_rfl) rfl rfl ⟨(bE B12.out 0).trans rfl, (bE B12.out 1).trans rfl, (bE B13.out 0).trans rfl, (bE B13.out 1).trans rfl⟩ (fun hHeld => ?_); refine with_tabW commodatumlaw12_UndoJoined.tab1 commodatumlaw12_UndoJoined.bits1 (fun HT_ HW_ => ?_)
    generalize w5.drew = w12 at B12 B13 HB hHeld ⊢
    refine take_ (i := 0) (N := some 14) (v := ?_) (a' := ?_) z1j2 rfl rfl (take_ofW HT_.out HW_.out (by kernel_rfl)) (fun _ _ _ h => h) (Or.inl ⟨by rfl, ?_⟩) hHeld ?_ ?_; rotate_left; (rintro w' ⟨s0, s1, s2, s3⟩; go_simp; with_reducible rfl); rotate_left; (simp only [Act.put, pSj2, i64_w]; rfl)
    refine one_ (i := 1) (N := some 15) z2j2 rfl rfl (one_of HT_.out (by kernel_rfl)) (by decide) (fun K hK => ?_)
    refine goes_ Tryd.func17 (by kernel_rfl) rfl #[.agg #[.int .i64 a0_0, .slice A0_1 l0_1.length c0_1]] (by rfl) rfl rfl (by (try simp only [List.map_toArray, List.map_cons, List.map_nil]); first | done | rfl | (simp only [List.length_drop, List.length_take]; rfl)) ?_
    with_reducible refine (commodatumlaw12_Wide.calls a0_0 _ _ l0_1 false _ ?side1 ?side2 A6.out).mono ?_
    (case side1 => with_reducible apply_rules [(cD HR0_1.out HB.out), cA, cB, cC])
    (case side2 => exact HC0_1.out)
    rintro e w13 ⟨rfl, hb⟩
    refine ⟨_, rfl, ?_⟩
    replace B12 := aM (bD (g := gb112) (o := .cells #[.int .i64 a0_0, .slice A0_1 l0_1.length c0_1] 25 (0, 0)) (by with_reducible apply_rules [B12.out, bA, bB, bC]) hb)
    replace B13 := aM (bD (g := gb113) (o := .cells #[.int .i64 a1_0, .slice A1_1 l1_1.length c1_1] 25 (0, 0)) (by with_reducible apply_rules [B13.out, bA, bB, bC]) hb)
    replace HB := aM (pS_ (by (with_reducible apply_rules [HB.out, pA, pD, pE, sT, GE112.out, GE113.out])) hb)
    (try clear hb)
    (try clear hb2)
    (try clear hk)
    (try clear hi)
    refine hK.out _ _ ⟨(bE B12.out 0).trans rfl, (bE B12.out 1).trans rfl, (bE B13.out 0).trans rfl, (bE B13.out 1).trans rfl⟩ (fun hHeld => ?_)
    clear hK K
    refine norm_ (a' := ?_) ?_ ?_
    rotate_left
    ·show Act.put _ (some 15) _ = _
     simp only [Act.put, pSj2, i64_w]
     rfl
    refine pure_ (i := 2) (N := some 16) (v := ?_) (a' := ?_) z3j2 rfl rfl (any_of HT_.out (by kernel_rfl)) (fun _ _ _ h => h) (Or.inl ⟨by rfl, ?_⟩) ?_ ?_; rotate_left; (intro w'; go_simp; with_reducible rfl); rotate_left; (simp only [Act.put, pSj2, i64_w]; rfl)
    refine take_ (i := 3) (N := some 17) (v := ?_) (a' := ?_) z4j2 rfl rfl (take_ofW HT_.out HW_.out (by kernel_rfl)) (fun _ _ _ h => h) (Or.inl ⟨by rfl, ?_⟩) hHeld ?_ ?_; rotate_left; (rintro w' ⟨s0, s1, s2, s3⟩; go_simp; with_reducible rfl); rotate_left; (simp only [Act.put, pSj2, i64_w]; rfl)
    refine one_ (i := 4) (N := some 18) z5j2 rfl rfl (one_of HT_.out (by kernel_rfl)) (by decide) (fun K hK => ?_)
    refine goes_ Tryd.func17 (by kernel_rfl) rfl #[.agg #[.int .i64 a1_0, .slice A1_1 l1_1.length c1_1]] (by rfl) rfl rfl (by (try simp only [List.map_toArray, List.map_cons, List.map_nil]); first | done | rfl | (simp only [List.length_drop, List.length_take]; rfl)) ?_
    with_reducible refine (commodatumlaw12_Wide.calls a1_0 _ _ l1_1 true _ ?side1 ?side2 A10.out).mono ?_
    (case side1 => with_reducible apply_rules [(cD HR1_1.out HB.out), cA, cB, cC])
    (case side2 => exact HC1_1.out)
    rintro e w14 ⟨rfl, hb⟩
    refine ⟨_, rfl, ?_⟩
    replace B12 := aM (bD (g := gb112) (o := .cells #[.int .i64 a0_0, .slice A0_1 l0_1.length c0_1] 25 (0, 0)) (by with_reducible apply_rules [B12.out, bA, bB, bC]) hb)
    replace B13 := aM (bD (g := gb113) (o := .cells #[.int .i64 a1_0, .slice A1_1 l1_1.length c1_1] 25 (0, 0)) (by with_reducible apply_rules [B13.out, bA, bB, bC]) hb)
    replace HB := aM (pS_ (by (with_reducible apply_rules [HB.out, pA, pD, pE, sT, GE112.out, GE113.out])) hb)
    (try clear hb)
    (try clear hb2)
    (try clear hk)
    (try clear hi)
    refine hK.out _ _ ⟨(bE B12.out 0).trans rfl, (bE B12.out 1).trans rfl, (bE B13.out 0).trans rfl, (bE B13.out 1).trans rfl⟩ (fun hHeld => ?_)
    clear hK K
    refine norm_ (a' := ?_) ?_ ?_
    rotate_left
    ·show Act.put _ (some 18) _ = _
     simp only [Act.put, pSj2, i64_w]
     rfl
    refine pure_ (i := 5) (N := some 19) (v := ?_) (a' := ?_) z6j2 rfl rfl (any_of HT_.out (by kernel_rfl)) (fun _ _ _ h => h) (Or.inl ⟨by rfl, ?_⟩) ?_ ?_; rotate_left; (intro w'; go_simp; with_reducible rfl); rotate_left; (simp only [Act.put, pSj2, i64_w]; rfl)
    refine pure_ (i := 6) (N := some 20) (v := ?_) (a' := ?_) z7j2 rfl rfl (any_of HT_.out (by kernel_rfl)) (fun _ _ _ h => h) (Or.inl ⟨by rfl, ?_⟩) ?_ ?_; rotate_left; (intro w'; go_simp; with_reducible rfl); rotate_left; (simp only [Act.put, pSj2, i64_w]; rfl)
    refine pure_ (i := 7) (N := some 21) (v := undef) (a' := ?_) z8j2 rfl rfl (any_of HT_.out (by kernel_rfl)) (fun _ _ _ h => h) (Or.inr ⟨by rfl, rfl⟩) ?_ ?_
    rotate_left
    ·simp only [Act.put, pSj2, i64_w]
     rfl
    refine pure_ (i := 8) (N := some 22) (v := undef) (a' := ?_) z9j2 rfl rfl (any_of HT_.out (by kernel_rfl)) (fun _ _ _ h => h) (Or.inr ⟨by rfl, rfl⟩) ?_ ?_
    rotate_left
    ·simp only [Act.put, pSj2, i64_w]
     rfl
    refine pure_ (i := 9) (N := some 23) (v := undef) (a' := ?_) z10j2 rfl rfl (any_of HT_.out (by kernel_rfl)) (fun _ _ _ h => h) (Or.inr ⟨by rfl, rfl⟩) ?_ ?_
    rotate_left
    ·simp only [Act.put, pSj2, i64_w]
     rfl
    refine pure_ (i := 10) (N := some 24) (v := ?_) (a' := ?_) z11j2 rfl rfl (any_of HT_.out (by kernel_rfl)) (fun _ _ _ h => h) (Or.inl ⟨by rfl, ?_⟩) ?_ ?_; rotate_left; (intro w'; go_simp; with_reducible rfl); rotate_left; (simp only [Act.put, pSj2, i64_w]; rfl)
    refine pure_ (i := 11) (N := some 25) (v := ?_) (a' := ?_) z12j2 rfl rfl (any_of HT_.out (by kernel_rfl)) (fun _ _ _ h => h) (Or.inl ⟨by rfl, ?_⟩) ?_ ?_; rotate_left; (intro w'; go_simp; with_reducible rfl); rotate_left; (simp only [Act.put, pSj2, i64_w]; rfl)
    refine pure_ (i := 12) (N := some 26) (v := undef) (a' := ?_) z13j2 rfl rfl (any_of HT_.out (by kernel_rfl)) (fun _ _ _ h => h) (Or.inr ⟨by rfl, rfl⟩) ?_ ?_
    rotate_left
    ·simp only [Act.put, pSj2, i64_w]
     rfl
    refine pure_ (i := 13) (N := some 27) (v := undef) (a' := ?_) z14j2 rfl rfl (any_of HT_.out (by kernel_rfl)) (fun _ _ _ h => h) (Or.inr ⟨by rfl, rfl⟩) ?_ ?_
    rotate_left
    ·simp only [Act.put, pSj2, i64_w]
     rfl
    refine pure_ (i := 14) (N := some 28) (v := undef) (a' := ?_) z15j2 rfl rfl (any_of HT_.out (by kernel_rfl)) (fun _ _ _ h => h) (Or.inr ⟨by rfl, rfl⟩) ?_ ?_
    rotate_left
    ·simp only [Act.put, pSj2, i64_w]
     rfl
    refine pure_ (i := 15) (N := some 29) (v := ?_) (a' := ?_) z16j2 rfl rfl (any_of HT_.out (by kernel_rfl)) (fun _ _ _ h => h) (Or.inl ⟨by rfl, ?_⟩) ?_ ?_; rotate_left; (intro w'; go_simp; with_reducible rfl); rotate_left; (simp only [Act.put, pSj2, i64_w]; rfl)
    refine pure_ (i := 16) (N := some 30) (v := ?_) (a' := ?_) z17j2 rfl rfl (any_of HT_.out (by kernel_rfl)) (fun _ _ _ h => h) (Or.inl ⟨by rfl, ?_⟩) ?_ ?_; rotate_left; (intro w'; go_simp; with_reducible rfl); rotate_left; (simp only [Act.put, pSj2, i64_w]; rfl)
    refine pure_ (i := 17) (N := some 31) (v := undef) (a' := ?_) z18j2 rfl rfl (any_of HT_.out (by kernel_rfl)) (fun _ _ _ h => h) (Or.inr ⟨by rfl, rfl⟩) ?_ ?_
    rotate_left
    ·simp only [Act.put, pSj2, i64_w]
     rfl
    refine pure_ (i := 18) (N := some 32) (v := undef) (a' := ?_) z19j2 rfl rfl (any_of HT_.out (by kernel_rfl)) (fun _ _ _ h => h) (Or.inr ⟨by rfl, rfl⟩) ?_ ?_
    rotate_left
    ·simp only [Act.put, pSj2, i64_w]
     rfl
    refine pure_ (i := 19) (N := some 33) (v := undef) (a' := ?_) z20j2 rfl rfl (any_of HT_.out (by kernel_rfl)) (fun _ _ _ h => h) (Or.inr ⟨by rfl, rfl⟩) ?_ ?_
    rotate_left
    ·simp only [Act.put, pSj2, i64_w]
     rfl
    refine pure_ (i := 20) (N := some 34) (v := undef) (a' := ?_) z21j2 rfl rfl (any_of HT_.out (by kernel_rfl)) (fun _ _ _ h => h) (Or.inr ⟨by rfl, rfl⟩) ?_ ?_
    rotate_left
    ·simp only [Act.put, pSj2, i64_w]
     rfl
    refine pure_ (i := 21) (N := some 35) (v := undef) (a' := ?_) z22j2 rfl rfl (any_of HT_.out (by kernel_rfl)) (fun _ _ _ h => h) (Or.inr ⟨by rfl, rfl⟩) ?_ ?_
    rotate_left
    ·simp only [Act.put, pSj2, i64_w]
     rfl
    refine pure_ (i := 22) (N := some 36) (v := ?_) (a' := ?_) z23j2 rfl rfl (any_of HT_.out (by kernel_rfl)) (fun _ _ _ h => h) (Or.inl ⟨by rfl, ?_⟩) ?_ ?_; rotate_left; (intro w'; go_simp; with_reducible rfl); rotate_left; (simp only [Act.put, pSj2, i64_w]; rfl)
    refine pure_ (i := 23) (N := some 37) (v := ?_) (a' := ?_) z24j2 rfl rfl (any_of HT_.out (by kernel_rfl)) (fun _ _ _ h => h) (Or.inl ⟨by rfl, ?_⟩) ?_ ?_; rotate_left; (intro w'; go_simp; with_reducible rfl); rotate_left; (simp only [Act.put, pSj2, i64_w]; rfl)
    refine pure_ (i := 24) (N := some 38) (v := undef) (a' := ?_) z25j2 rfl rfl (any_of HT_.out (by kernel_rfl)) (fun _ _ _ h => h) (Or.inr ⟨by rfl, rfl⟩) ?_ ?_
    rotate_left
    ·simp only [Act.put, pSj2, i64_w]
     rfl
    refine pure_ (i := 25) (N := some 39) (v := undef) (a' := ?_) z26j2 rfl rfl (any_of HT_.out (by kernel_rfl)) (fun _ _ _ h => h) (Or.inr ⟨by rfl, rfl⟩) ?_ ?_
    rotate_left
    ·simp only [Act.put, pSj2, i64_w]
     rfl
    refine pure_ (i := 26) (N := some 40) (v := undef) (a' := ?_) z27j2 rfl rfl (any_of HT_.out (by kernel_rfl)) (fun _ _ _ h => h) (Or.inr ⟨by rfl, rfl⟩) ?_ ?_
    rotate_left
    ·simp only [Act.put, pSj2, i64_w]
     rfl
    refine pure_ (i := 27) (N := some 41) (v := ?_) (a' := ?_) z28j2 rfl rfl (any_of HT_.out (by kernel_rfl)) (fun _ _ _ h => h) (Or.inl ⟨by rfl, ?_⟩) ?_ ?_; rotate_left; (intro w'; go_simp; with_reducible rfl); rotate_left; (simp only [Act.put, pSj2, i64_w]; rfl)
    refine pure_ (i := 28) (N := some 42) (v := ?_) (a' := ?_) z29j2 rfl rfl (any_of HT_.out (by kernel_rfl)) (fun _ _ _ h => h) (Or.inl ⟨by rfl, ?_⟩) ?_ ?_; rotate_left; (intro w'; go_simp; with_reducible rfl); rotate_left; (simp only [Act.put, pSj2, i64_w]; rfl)
    refine pure_ (i := 29) (N := some 43) (v := undef) (a' := ?_) z30j2 rfl rfl (any_of HT_.out (by kernel_rfl)) (fun _ _ _ h => h) (Or.inr ⟨by rfl, rfl⟩) ?_ ?_
    rotate_left
    ·simp only [Act.put, pSj2, i64_w]
     rfl
    refine pure_ (i := 30) (N := some 44) (v := undef) (a' := ?_) z31j2 rfl rfl (any_of HT_.out (by kernel_rfl)) (fun _ _ _ h => h) (Or.inr ⟨by rfl, rfl⟩) ?_ ?_
    rotate_left
    ·simp only [Act.put, pSj2, i64_w]
     rfl
    refine pure_ (i := 31) (N := some 45) (v := undef) (a' := ?_) z32j2 rfl rfl (any_of HT_.out (by kernel_rfl)) (fun _ _ _ h => h) (Or.inr ⟨by rfl, rfl⟩) ?_ ?_
    rotate_left
    ·simp only [Act.put, pSj2, i64_w]
     rfl
    refine pure_ (i := 32) (N := some 46) (v := undef) (a' := ?_) z33j2 rfl rfl (any_of HT_.out (by kernel_rfl)) (fun _ _ _ h => h) (Or.inr ⟨by rfl, rfl⟩) ?_ ?_
    rotate_left
    ·simp only [Act.put, pSj2, i64_w]
     rfl
    refine pure_ (i := 33) (N := some 47) (v := undef) (a' := ?_) z34j2 rfl rfl (any_of HT_.out (by kernel_rfl)) (fun _ _ _ h => h) (Or.inr ⟨by rfl, rfl⟩) ?_ ?_
    rotate_left
    ·simp only [Act.put, pSj2, i64_w]
     rfl
    refine pure_ (i := 34) (N := some 48) (v := undef) (a' := ?_) z35j2 rfl rfl (any_of HT_.out (by kernel_rfl)) (fun _ _ _ h => h) (Or.inr ⟨by rfl, rfl⟩) ?_ ?_
    rotate_left
    ·simp only [Act.put, pSj2, i64_w]
     rfl
    refine pure_ (i := 35) (N := some 49) (v := undef) (a' := ?_) z36j2 rfl rfl (any_of HT_.out (by kernel_rfl)) (fun _ _ _ h => h) (Or.inr ⟨by rfl, rfl⟩) ?_ ?_
    rotate_left
    ·simp only [Act.put, pSj2, i64_w]
     rfl
    refine pure_ (i := 36) (N := some 50) (v := ?_) (a' := ?_) z37j2 rfl rfl (any_of HT_.out (by kernel_rfl)) (fun _ _ _ h => h) (Or.inl ⟨by rfl, ?_⟩) ?_ ?_; rotate_left; (intro w'; go_simp; with_reducible rfl); rotate_left; (simp only [Act.put, pSj2, i64_w]; rfl)
    refine done_ (done_of HT_.out (by kernel_rfl)) ?_
    try go_wp2
    go_meet
    case rel => exact ⟨_, (true), (by first | rfl | (simp; done) | (simp [*]; done)), H', ⟨by first | omega | exact Nat.le_refl _⟩, ⟨by with_reducible apply_rules [B12.out, bA, bB, bC]⟩, ⟨by with_reducible apply_rules [B13.out, bA, bB, bC]⟩, ⟨by (with_reducible apply_rules [HB.out, pA, pD, pE, sT, GE112.out, GE113.out])⟩⟩
   ·replace c11 := Bool.eq_false_iff.mpr c11
    subst c11
    have H1 : ((commodatumref12_Valid.f k a0_0 l0_1).bind fun t116 => (if t116 = true then ((commodatumref12_Valid.f k a1_0 l1_1).bind fun t117 => (if t117 = true then (if a0_0 = a1_0 then (if a0_0 > 16 then (commodatumlaw12_UndoJoined.j0 k true a0_0 l0_1 a1_0 l1_1) else ((commodatumref12_Join.f a0_0 l0_1 a1_0 l1_1).bind fun bt118 => ((commodatumref12_Cost.f bt118.1 bt118.2 a0_0).bind fun t122 => (commodatumlaw12_UndoJoined.j0 k (decide (t122 > 400000)) a0_0 l0_1 a1_0 l1_1)))) else (commodatumlaw12_UndoJoined.j0 k true a0_0 l0_1 a1_0 l1_1)) else (commodatumlaw12_UndoJoined.j0 k true a0_0 l0_1 a1_0 l1_1))) else (commodatumlaw12_UndoJoined.j0 k true a0_0 l0_1 a1_0 l1_1))) = some r := by rw [if_neg (show ¬ (false = true) by decide)] at H; exact H
    clear H
    have H := H1
    clear H1
    replace H := Option.bind_eq_some_iff.mp H
    obtain ⟨t116, A150, H⟩ := H
    replace H : (if t116 = true then ((commodatumref12_Valid.f k a1_0 l1_1).bind fun t117 => (if t117 = true then (if a0_0 = a1_0 then (if a0_0 > 16 then (commodatumlaw12_UndoJoined.j0 k true a0_0 l0_1 a1_0 l1_1) else ((commodatumref12_Join.f a0_0 l0_1 a1_0 l1_1).bind fun bt118 => ((commodatumref12_Cost.f bt118.1 bt118.2 a0_0).bind fun t122 => (commodatumlaw12_UndoJoined.j0 k (decide (t122 > 400000)) a0_0 l0_1 a1_0 l1_1)))) else (commodatumlaw12_UndoJoined.j0 k true a0_0 l0_1 a1_0 l1_1)) else (commodatumlaw12_UndoJoined.j0 k true a0_0 l0_1 a1_0 l1_1))) else (commodatumlaw12_UndoJoined.j0 k true a0_0 l0_1 a1_0 l1_1)) = some r := H
    have A15 := aM A150
    clear A150
    by_cases c16 : t116 = true
    ·subst c16
     have H1 : ((commodatumref12_Valid.f k a1_0 l1_1).bind fun t117 => (if t117 = true then (if a0_0 = a1_0 then (if a0_0 > 16 then (commodatumlaw12_UndoJoined.j0 k true a0_0 l0_1 a1_0 l1_1) else ((commodatumref12_Join.f a0_0 l0_1 a1_0 l1_1).bind fun bt118 => ((commodatumref12_Cost.f bt118.1 bt118.2 a0_0).bind fun t122 => (commodatumlaw12_UndoJoined.j0 k (decide (t122 > 400000)) a0_0 l0_1 a1_0 l1_1)))) else (commodatumlaw12_UndoJoined.j0 k true a0_0 l0_1 a1_0 l1_1)) else (commodatumlaw12_UndoJoined.j0 k true a0_0 l0_1 a1_0 l1_1))) = some r := by rw [if_pos rfl] at H; exact H
     clear H
     have H := H1
     clear H1
     replace H := Option.bind_eq_some_iff.mp H
     obtain ⟨t117, A170, H⟩ := H
     replace H : (if t117 = true then (if a0_0 = a1_0 then (if a0_0 > 16 then (commodatumlaw12_UndoJoined.j0 k true a0_0 l0_1 a1_0 l1_1) else ((commodatumref12_Join.f a0_0 l0_1 a1_0 l1_1).bind fun bt118 => ((commodatumref12_Cost.f bt118.1 bt118.2 a0_0).bind fun t122 => (commodatumlaw12_UndoJoined.j0 k (decide (t122 > 400000)) a0_0 l0_1 a1_0 l1_1)))) else (commodatumlaw12_UndoJoined.j0 k true a0_0 l0_1 a1_0 l1_1)) else (commodatumlaw12_UndoJoined.j0 k true a0_0 l0_1 a1_0 l1_1)) = some r := H
     have A17 := aM A170
     clear A170
     by_cases c18 : t117 = true
     ·subst c18
      have H1 : (if a0_0 = a1_0 then (if a0_0 > 16 then (commodatumlaw12_UndoJoined.j0 k true a0_0 l0_1 a1_0 l1_1) else ((commodatumref12_Join.f a0_0 l0_1 a1_0 l1_1).bind fun bt118 => ((commodatumref12_Cost.f bt118.1 bt118.2 a0_0).bind fun t122 => (commodatumlaw12_UndoJoined.j0 k (decide (t122 > 400000)) a0_0 l0_1 a1_0 l1_1)))) else (commodatumlaw12_UndoJoined.j0 k true a0_0 l0_1 a1_0 l1_1)) = some r := by rw [if_pos rfl] at H; exact H
      clear H
      have H := H1
      clear H1
      by_cases c19 : a0_0 = a1_0
      ·rw [if_pos c19] at H
       have c19b0 : (a0_0 == a1_0) = true := beq_iff_eq.mpr c19
       have c19b1 : (a0_0 != a1_0) = false := bne_eq_false_iff_eq.mpr c19
       clear c19
       (first | rw [c19b0] | (simp only [i64_w, i32_w]; rw [c19b0]) | skip)
       by_cases c20 : a0_0 > 16
       ·rw [if_pos c20] at H
        have c20b0 : decide (16 < a0_0) = true := decide_eq_true c20
        clear c20
        have H' := aM H
        clear H
        try go_wp2
        replace B12 := aM (bB B12.out)
        replace B13 := aM (bB B13.out)
        replace HB := aM (pE HB.out)
        refine start_ (n := 37) (S := fun w' => w'.cell? ⟨gb112, 0, none⟩ = some (.int .i64 a0_0) ∧ w'.cell? ⟨gb112, 1, none⟩ = some (.slice A0_1 l0_1.length c0_1) ∧ w'.cell? ⟨gb113, 0, none⟩ = some (.int .i64 a1_0) ∧ w'.cell? ⟨gb113, 1, none⟩ = some (.slice A1_1 l1_1.length c1_1)) (ds := []) z0j2 (by kernel_rfl) rfl rfl ⟨(bE B12.out 0).trans rfl, (bE B12.out 1).trans rfl, (bE B13.out 0).trans rfl, (bE B13.out 1).trans rfl⟩ (fun hHeld => ?_); refine with_tabW commodatumlaw12_UndoJoined.tab1 commodatumlaw12_UndoJoined.bits1 (fun HT_ HW_ => ?_)
        generalize w5.drew = w21 at B12 B13 HB hHeld ⊢
        refine take_ (i := 0) (N := some 14) (v := ?_) (a' := ?_) z1j2 rfl rfl (take_ofW HT_.out HW_.out (by kernel_rfl)) (fun _ _ _ h => h) (Or.inl ⟨by rfl, ?_⟩) hHeld ?_ ?_; rotate_left; (rintro w' ⟨s0, s1, s2, s3⟩; go_simp; with_reducible rfl); rotate_left; (simp only [Act.put, pSj2, i64_w]; rfl)
        refine one_ (i := 1) (N := some 15) z2j2 rfl rfl (one_of HT_.out (by kernel_rfl)) (by decide) (fun K hK => ?_)
        refine goes_ Tryd.func17 (by kernel_rfl) rfl #[.agg #[.int .i64 a0_0, .slice A0_1 l0_1.length c0_1]] (by rfl) rfl rfl (by (try simp only [List.map_toArray, List.map_cons, List.map_nil]); first | done | rfl | (simp only [List.length_drop, List.length_take]; rfl)) ?_
        with_reducible refine (commodatumlaw12_Wide.calls a0_0 _ _ l0_1 false _ ?side1 ?side2 A6.out).mono ?_
        (case side1 => with_reducible apply_rules [(cD HR0_1.out HB.out), cA, cB, cC])
        (case side2 => exact HC0_1.out)
        rintro e w22 ⟨rfl, hb⟩
        refine ⟨_, rfl, ?_⟩
        replace B12 := aM (bD (g := gb112) (o := .cells #[.int .i64 a0_0, .slice A0_1 l0_1.length c0_1] 25 (0, 0)) (by with_reducible apply_rules [B12.out, bA, bB, bC]) hb)
        replace B13 := aM (bD (g := gb113) (o := .cells #[.int .i64 a1_0, .slice A1_1 l1_1.length c1_1] 25 (0, 0)) (by with_reducible apply_rules [B13.out, bA, bB, bC]) hb)
        replace HB := aM (pS_ (by (with_reducible apply_rules [HB.out, pA, pD, pE, sT, GE112.out, GE113.out])) hb)
        (try clear hb)
        (try clear hb2)
        (try clear hk)
        (try clear hi)
        refine hK.out _ _ ⟨(bE B12.out 0).trans rfl, (bE B12.out 1).trans rfl, (bE B13.out 0).trans rfl, (bE B13.out 1).trans rfl⟩ (fun hHeld => ?_)
        clear hK K
        refine norm_ (a' := ?_) ?_ ?_
        rotate_left
        ·show Act.put _ (some 15) _ = _
         simp only [Act.put, pSj2, i64_w]
         rfl
        refine pure_ (i := 2) (N := some 16) (v := ?_) (a' := ?_) z3j2 rfl rfl (any_of HT_.out (by kernel_rfl)) (fun _ _ _ h => h) (Or.inl ⟨by rfl, ?_⟩) ?_ ?_; rotate_left; (intro w'; go_simp; with_reducible rfl); rotate_left; (simp only [Act.put, pSj2, i64_w]; rfl)
        refine take_ (i := 3) (N := some 17) (v := ?_) (a' := ?_) z4j2 rfl rfl (take_ofW HT_.out HW_.out (by kernel_rfl)) (fun _ _ _ h => h) (Or.inl ⟨by rfl, ?_⟩) hHeld ?_ ?_; rotate_left; (rintro w' ⟨s0, s1, s2, s3⟩; go_simp; with_reducible rfl); rotate_left; (simp only [Act.put, pSj2, i64_w]; rfl)
        refine one_ (i := 4) (N := some 18) z5j2 rfl rfl (one_of HT_.out (by kernel_rfl)) (by decide) (fun K hK => ?_)
        refine goes_ Tryd.func17 (by kernel_rfl) rfl #[.agg #[.int .i64 a1_0, .slice A1_1 l1_1.length c1_1]] (by rfl) rfl rfl (by (try simp only [List.map_toArray, List.map_cons, List.map_nil]); first | done | rfl | (simp only [List.length_drop, List.length_take]; rfl)) ?_
        with_reducible refine (commodatumlaw12_Wide.calls a1_0 _ _ l1_1 false _ ?side1 ?side2 A10.out).mono ?_
        (case side1 => with_reducible apply_rules [(cD HR1_1.out HB.out), cA, cB, cC])
        (case side2 => exact HC1_1.out)
        rintro e w23 ⟨rfl, hb⟩
        refine ⟨_, rfl, ?_⟩
        replace B12 := aM (bD (g := gb112) (o := .cells #[.int .i64 a0_0, .slice A0_1 l0_1.length c0_1] 25 (0, 0)) (by with_reducible apply_rules [B12.out, bA, bB, bC]) hb)
        replace B13 := aM (bD (g := gb113) (o := .cells #[.int .i64 a1_0, .slice A1_1 l1_1.length c1_1] 25 (0, 0)) (by with_reducible apply_rules [B13.out, bA, bB, bC]) hb)
        replace HB := aM (pS_ (by (with_reducible apply_rules [HB.out, pA, pD, pE, sT, GE112.out, GE113.out])) hb)
        (try clear hb)
        (try clear hb2)
        (try clear hk)
        (try clear hi)
        refine hK.out _ _ ⟨(bE B12.out 0).trans rfl, (bE B12.out 1).trans rfl, (bE B13.out 0).trans rfl, (bE B13.out 1).trans rfl⟩ (fun hHeld => ?_)
        clear hK K
        refine norm_ (a' := ?_) ?_ ?_
        rotate_left
        ·show Act.put _ (some 18) _ = _
         simp only [Act.put, pSj2, i64_w]
         rfl
        refine pure_ (i := 5) (N := some 19) (v := ?_) (a' := ?_) z6j2 rfl rfl (any_of HT_.out (by kernel_rfl)) (fun _ _ _ h => h) (Or.inl ⟨by rfl, ?_⟩) ?_ ?_; rotate_left; (intro w'; go_simp; with_reducible rfl); rotate_left; (simp only [Act.put, pSj2, i64_w]; rfl)
        refine pure_ (i := 6) (N := some 20) (v := ?_) (a' := ?_) z7j2 rfl rfl (any_of HT_.out (by kernel_rfl)) (fun _ _ _ h => h) (Or.inl ⟨by rfl, ?_⟩) ?_ ?_; rotate_left; (intro w'; go_simp; with_reducible rfl); rotate_left; (simp only [Act.put, pSj2, i64_w]; rfl)
        refine take_ (i := 7) (N := some 21) (v := ?_) (a' := ?_) z8j2 rfl rfl (take_ofW HT_.out HW_.out (by kernel_rfl)) (fun _ _ _ h => h) (Or.inl ⟨by rfl, ?_⟩) hHeld ?_ ?_; rotate_left; (rintro w' ⟨s0, s1, s2, s3⟩; go_simp; with_reducible rfl); rotate_left; (simp only [Act.put, pSj2, i64_w]; rfl)
        refine one_ (i := 8) (N := some 22) z9j2 rfl rfl (one_of HT_.out (by kernel_rfl)) (by decide) (fun K hK => ?_)
        refine goes_ Tryd.func18 (by kernel_rfl) rfl #[.agg #[.int .i64 a0_0, .slice A0_1 l0_1.length c0_1]] (by rfl) rfl rfl (by (try simp only [List.map_toArray, List.map_cons, List.map_nil]); first | done | rfl | (simp only [List.length_drop, List.length_take]; rfl)) ?_
        with_reducible refine (commodatumref12_Valid.calls k a0_0 _ _ l0_1 true _ ?side1 ?side2 A15.out).mono ?_
        (case side1 => with_reducible apply_rules [(cD HR0_1.out HB.out), cA, cB, cC])
        (case side2 => exact HC0_1.out)
        rintro e w24 ⟨rfl, hb⟩
        refine ⟨_, rfl, ?_⟩
        replace B12 := aM (bD (g := gb112) (o := .cells #[.int .i64 a0_0, .slice A0_1 l0_1.length c0_1] 25 (0, 0)) (by with_reducible apply_rules [B12.out, bA, bB, bC]) hb)
        replace B13 := aM (bD (g := gb113) (o := .cells #[.int .i64 a1_0, .slice A1_1 l1_1.length c1_1] 25 (0, 0)) (by with_reducible apply_rules [B13.out, bA, bB, bC]) hb)
        replace HB := aM (pS_ (by (with_reducible apply_rules [HB.out, pA, pD, pE, sT, GE112.out, GE113.out])) hb)
        (try clear hb)
        (try clear hb2)
        (try clear hk)
        (try clear hi)
        refine hK.out _ _ ⟨(bE B12.out 0).trans rfl, (bE B12.out 1).trans rfl, (bE B13.out 0).trans rfl, (bE B13.out 1).trans rfl⟩ (fun hHeld => ?_)
        clear hK K
        refine norm_ (a' := ?_) ?_ ?_
        rotate_left
        ·show Act.put _ (some 22) _ = _
         simp only [Act.put, pSj2, i64_w]
         rfl
        refine pure_ (i := 9) (N := some 23) (v := ?_) (a' := ?_) z10j2 rfl rfl (any_of HT_.out (by kernel_rfl)) (fun _ _ _ h => h) (Or.inl ⟨by rfl, ?_⟩) ?_ ?_; rotate_left; (intro w'; go_simp; with_reducible rfl); rotate_left; (simp only [Act.put, pSj2, i64_w]; rfl)
        refine pure_ (i := 10) (N := some 24) (v := ?_) (a' := ?_) z11j2 rfl rfl (any_of HT_.out (by kernel_rfl)) (fun _ _ _ h => h) (Or.inl ⟨by rfl, ?_⟩) ?_ ?_; rotate_left; (intro w'; go_simp; with_reducible rfl); rotate_left; (simp only [Act.put, pSj2, i64_w]; rfl)
        refine pure_ (i := 11) (N := some 25) (v := ?_) (a' := ?_) z12j2 rfl rfl (any_of HT_.out (by kernel_rfl)) (fun _ _ _ h => h) (Or.inl ⟨by rfl, ?_⟩) ?_ ?_; rotate_left; (intro w'; go_simp; with_reducible rfl); rotate_left; (simp only [Act.put, pSj2, i64_w]; rfl)
        refine take_ (i := 12) (N := some 26) (v := ?_) (a' := ?_) z13j2 rfl rfl (take_ofW HT_.out HW_.out (by kernel_rfl)) (fun _ _ _ h => h) (Or.inl ⟨by rfl, ?_⟩) hHeld ?_ ?_; rotate_left; (rintro w' ⟨s0, s1, s2, s3⟩; go_simp; with_reducible rfl); rotate_left; (simp only [Act.put, pSj2, i64_w]; rfl)
        refine one_ (i := 13) (N := some 27) z14j2 rfl rfl (one_of HT_.out (by kernel_rfl)) (by decide) (fun K hK => ?_)
        refine goes_ Tryd.func18 (by kernel_rfl) rfl #[.agg #[.int .i64 a1_0, .slice A1_1 l1_1.length c1_1]] (by rfl) rfl rfl (by (try simp only [List.map_toArray, List.map_cons, List.map_nil]); first | done | rfl | (simp only [List.length_drop, List.length_take]; rfl)) ?_
        with_reducible refine (commodatumref12_Valid.calls k a1_0 _ _ l1_1 true _ ?side1 ?side2 A17.out).mono ?_
        (case side1 => with_reducible apply_rules [(cD HR1_1.out HB.out), cA, cB, cC])
        (case side2 => exact HC1_1.out)
        rintro e w25 ⟨rfl, hb⟩
        refine ⟨_, rfl, ?_⟩
        replace B12 := aM (bD (g := gb112) (o := .cells #[.int .i64 a0_0, .slice A0_1 l0_1.length c0_1] 25 (0, 0)) (by with_reducible apply_rules [B12.out, bA, bB, bC]) hb)
        replace B13 := aM (bD (g := gb113) (o := .cells #[.int .i64 a1_0, .slice A1_1 l1_1.length c1_1] 25 (0, 0)) (by with_reducible apply_rules [B13.out, bA, bB, bC]) hb)
        replace HB := aM (pS_ (by (with_reducible apply_rules [HB.out, pA, pD, pE, sT, GE112.out, GE113.out])) hb)
        (try clear hb)
        (try clear hb2)
        (try clear hk)
        (try clear hi)
        refine hK.out _ _ ⟨(bE B12.out 0).trans rfl, (bE B12.out 1).trans rfl, (bE B13.out 0).trans rfl, (bE B13.out 1).trans rfl⟩ (fun hHeld => ?_)
        clear hK K
        refine norm_ (a' := ?_) ?_ ?_
        rotate_left
        ·show Act.put _ (some 27) _ = _
         simp only [Act.put, pSj2, i64_w]
         rfl
        refine pure_ (i := 14) (N := some 28) (v := ?_) (a' := ?_) z15j2 rfl rfl (any_of HT_.out (by kernel_rfl)) (fun _ _ _ h => h) (Or.inl ⟨by rfl, ?_⟩) ?_ ?_; rotate_left; (intro w'; go_simp; with_reducible rfl); rotate_left; (simp only [Act.put, pSj2, i64_w]; rfl)
        refine pure_ (i := 15) (N := some 29) (v := ?_) (a' := ?_) z16j2 rfl rfl (any_of HT_.out (by kernel_rfl)) (fun _ _ _ h => h) (Or.inl ⟨by rfl, ?_⟩) ?_ ?_; rotate_left; (intro w'; go_simp; with_reducible rfl); rotate_left; (simp only [Act.put, pSj2, i64_w]; rfl)
        refine pure_ (i := 16) (N := some 30) (v := ?_) (a' := ?_) z17j2 rfl rfl (any_of HT_.out (by kernel_rfl)) (fun _ _ _ h => h) (Or.inl ⟨by rfl, ?_⟩) ?_ ?_; rotate_left; (intro w'; go_simp; with_reducible rfl); rotate_left; (simp only [Act.put, pSj2, i64_w]; rfl)
        refine pure_ (i := 17) (N := some 31) (v := ?_) (a' := ?_) z18j2 rfl rfl (any_of HT_.out (by kernel_rfl)) (fun _ _ _ h => h) (Or.inl ⟨by rfl, ?_⟩) ?_ ?_; rotate_left; (intro w'; go_simp; with_reducible rfl); rotate_left; (simp only [Act.put, pSj2, i64_w]; rfl)
        refine pure_ (i := 19) (N := some 33) (v := ?_) (a' := ?_) z38j2 rfl rfl (any_of HT_.out (by kernel_rfl)) (fun _ _ _ h => h) (Or.inl ⟨by rfl, ?_⟩) ?_ ?_; rotate_left; (intro w'; go_simp; with_reducible rfl); rotate_left; (simp only [Act.put, pSj2, i64_w]; rfl)
        refine take_ (i := 18) (N := some 32) (v := ?_) (a' := ?_) z20j2 rfl rfl (take_ofW HT_.out HW_.out (by kernel_rfl)) (fun _ _ _ h => h) (Or.inl ⟨by rfl, ?_⟩) hHeld ?_ ?_; rotate_left; (rintro w' ⟨s0, s1, s2, s3⟩; go_simp; with_reducible rfl); rotate_left; (simp only [Act.put, pSj2, i64_w]; rfl)
        refine take_ (i := 20) (N := some 34) (v := ?_) (a' := ?_) z21j2 rfl rfl (take_ofW HT_.out HW_.out (by kernel_rfl)) (fun _ _ _ h => h) (Or.inl ⟨by rfl, ?_⟩) hHeld ?_ ?_; rotate_left; (rintro w' ⟨s0, s1, s2, s3⟩; go_simp; with_reducible rfl); rotate_left; (simp only [Act.put, pSj2, i64_w]; rfl)
        refine pure_ (i := 21) (N := some 35) (v := ?_) (a' := ?_) z22j2 rfl rfl (any_of HT_.out (by kernel_rfl)) (fun _ _ _ h => h) (Or.inl ⟨by rfl, ?_⟩) ?_ ?_; rotate_left; (intro w'; go_simp; with_reducible rfl); rotate_left; (simp only [Act.put, pSj2, i64_w]; rfl)
        refine pure_ (i := 22) (N := some 36) (v := ?_) (a' := ?_) z23j2 rfl rfl (any_of HT_.out (by kernel_rfl)) (fun _ _ _ h => h) (Or.inl ⟨by rfl, ?_⟩) ?_ ?_; rotate_left; (intro w'; go_simp; with_reducible rfl); rotate_left; (simp only [Act.put, pSj2, i64_w]; rfl)
        refine pure_ (i := 23) (N := some 37) (v := ?_) (a' := ?_) z24j2 rfl rfl (any_of HT_.out (by kernel_rfl)) (fun _ _ _ h => h) (Or.inl ⟨by rfl, ?_⟩) ?_ ?_; rotate_left; (intro w'; go_simp; with_reducible rfl); rotate_left; (simp only [Act.put, pSj2, i64_w]; rfl)
        refine pure_ (i := 24) (N := some 38) (v := ?_) (a' := ?_) z25j2 rfl rfl (any_of HT_.out (by kernel_rfl)) (fun _ _ _ h => h) (Or.inl ⟨by rfl, ?_⟩) ?_ ?_; rotate_left; (intro w'; go_simp; with_reducible rfl); rotate_left; (simp only [Act.put, pSj2, i64_w]; rfl)
        refine take_ (i := 25) (N := some 39) (v := ?_) (a' := ?_) z26j2 rfl rfl (take_ofW HT_.out HW_.out (by kernel_rfl)) (fun _ _ _ h => h) (Or.inl ⟨by rfl, ?_⟩) hHeld ?_ ?_; rotate_left; (rintro w' ⟨s0, s1, s2, s3⟩; go_simp; with_reducible rfl); rotate_left; (simp only [Act.put, pSj2, i64_w]; rfl)
        refine pure_ (i := 26) (N := some 40) (v := ?_) (a' := ?_) z27j2 rfl rfl (any_of HT_.out (by kernel_rfl)) (fun _ _ _ h => h) (Or.inl ⟨by rfl, ?_⟩) ?_ ?_; rotate_left; (intro w'; go_simp; with_reducible rfl); rotate_left; (simp only [Act.put, pSj2, i64_w]; rfl)
        refine pure_ (i := 27) (N := some 41) (v := ?_) (a' := ?_) z28j2 rfl rfl (any_of HT_.out (by kernel_rfl)) (fun _ _ _ h => h) (Or.inl ⟨by rfl, ?_⟩) ?_ ?_; rotate_left; (intro w'; go_simp; with_reducible rfl); rotate_left; (simp only [Act.put, pSj2, i64_w]; rfl)
        refine pure_ (i := 28) (N := some 42) (v := ?_) (a' := ?_) z29j2 rfl rfl (any_of HT_.out (by kernel_rfl)) (fun _ _ _ h => h) (Or.inl ⟨by rfl, ?_⟩) ?_ ?_; rotate_left; (intro w'; go_simp; with_reducible rfl); rotate_left; (simp only [Act.put, pSj2, i64_w]; rfl)
        refine pure_ (i := 29) (N := some 43) (v := undef) (a' := ?_) z30j2 rfl rfl (any_of HT_.out (by kernel_rfl)) (fun _ _ _ h => h) (Or.inr ⟨by rfl, rfl⟩) ?_ ?_
        rotate_left
        ·simp only [Act.put, pSj2, i64_w]
         rfl
        refine pure_ (i := 30) (N := some 44) (v := undef) (a' := ?_) z31j2 rfl rfl (any_of HT_.out (by kernel_rfl)) (fun _ _ _ h => h) (Or.inr ⟨by rfl, rfl⟩) ?_ ?_
        rotate_left
        ·simp only [Act.put, pSj2, i64_w]
         rfl
        refine pure_ (i := 31) (N := some 45) (v := undef) (a' := ?_) z32j2 rfl rfl (any_of HT_.out (by kernel_rfl)) (fun _ _ _ h => h) (Or.inr ⟨by rfl, rfl⟩) ?_ ?_
        rotate_left
        ·simp only [Act.put, pSj2, i64_w]
         rfl
        refine pure_ (i := 32) (N := some 46) (v := undef) (a' := ?_) z33j2 rfl rfl (any_of HT_.out (by kernel_rfl)) (fun _ _ _ h => h) (Or.inr ⟨by rfl, rfl⟩) ?_ ?_
        rotate_left
        ·simp only [Act.put, pSj2, i64_w]
         rfl
        refine pure_ (i := 33) (N := some 47) (v := undef) (a' := ?_) z34j2 rfl rfl (any_of HT_.out (by kernel_rfl)) (fun _ _ _ h => h) (Or.inr ⟨by rfl, rfl⟩) ?_ ?_
        rotate_left
        ·simp only [Act.put, pSj2, i64_w]
         rfl
        refine pure_ (i := 34) (N := some 48) (v := undef) (a' := ?_) z35j2 rfl rfl (any_of HT_.out (by kernel_rfl)) (fun _ _ _ h => h) (Or.inr ⟨by rfl, rfl⟩) ?_ ?_
        rotate_left
        ·simp only [Act.put, pSj2, i64_w]
         rfl
        refine pure_ (i := 35) (N := some 49) (v := undef) (a' := ?_) z36j2 rfl rfl (any_of HT_.out (by kernel_rfl)) (fun _ _ _ h => h) (Or.inr ⟨by rfl, rfl⟩) ?_ ?_
        rotate_left
        ·simp only [Act.put, pSj2, i64_w]
         rfl
        refine pure_ (i := 36) (N := some 50) (v := ?_) (a' := ?_) z37j2 rfl rfl (any_of HT_.out (by kernel_rfl)) (fun _ _ _ h => h) (Or.inl ⟨by rfl, ?_⟩) ?_ ?_; rotate_left; (intro w'; go_simp; with_reducible rfl); rotate_left; (simp only [Act.put, pSj2, i64_w]; rfl)
        refine done_ (done_of HT_.out (by kernel_rfl)) ?_
        try go_wp2
        go_meet
        case rel => exact ⟨_, (true), (by first | rfl | (simp; done) | (simp [*]; done)), H', ⟨by first | omega | exact Nat.le_refl _⟩, ⟨by with_reducible apply_rules [B12.out, bA, bB, bC]⟩, ⟨by with_reducible apply_rules [B13.out, bA, bB, bC]⟩, ⟨by (with_reducible apply_rules [HB.out, pA, pD, pE, sT, GE112.out, GE113.out])⟩⟩
       ·rw [if_neg c20] at H
        have c20b0 : decide (16 < a0_0) = false := decide_eq_false c20
        clear c20
        replace H := Option.bind_eq_some_iff.mp H
        obtain ⟨⟨t118, t119⟩, A260, H⟩ := H
        replace H : ((commodatumref12_Cost.f t118 t119 a0_0).bind fun t122 => (commodatumlaw12_UndoJoined.j0 k (decide (t122 > 400000)) a0_0 l0_1 a1_0 l1_1)) = some r := H
        have A26 := aM A260
        clear A260
        replace H := Option.bind_eq_some_iff.mp H
        obtain ⟨t122, A270, H⟩ := H
        replace H : (commodatumlaw12_UndoJoined.j0 k (decide (t122 > 400000)) a0_0 l0_1 a1_0 l1_1) = some r := H
        have A27 := aM A270
        clear A270
        have H' := aM H
        clear H
        try go_wp2
        replace B12 := aM (bB B12.out)
        replace B13 := aM (bB B13.out)
        replace HB := aM (pE HB.out)
        refine start_ (n := 37) (S := fun w' => w'.cell? ⟨gb112, 0, none⟩ = some (.int .i64 a0_0) ∧ w'.cell? ⟨gb112, 1, none⟩ = some (.slice A0_1 l0_1.length c0_1) ∧ w'.cell? ⟨gb113, 0, none⟩ = some (.int .i64 a1_0) ∧ w'.cell? ⟨gb113, 1, none⟩ = some (.slice A1_1 l1_1.length c1_1)) (ds := []) z0j2 (by kernel_rfl) rfl rfl ⟨(bE B12.out 0).trans rfl, (bE B12.out 1).trans rfl, (bE B13.out 0).trans rfl, (bE B13.out 1).trans rfl⟩ (fun hHeld => ?_); refine with_tabW commodatumlaw12_UndoJoined.tab1 commodatumlaw12_UndoJoined.bits1 (fun HT_ HW_ => ?_)
        generalize w5.drew = w28 at B12 B13 HB hHeld ⊢
        refine take_ (i := 0) (N := some 14) (v := ?_) (a' := ?_) z1j2 rfl rfl (take_ofW HT_.out HW_.out (by kernel_rfl)) (fun _ _ _ h => h) (Or.inl ⟨by rfl, ?_⟩) hHeld ?_ ?_; rotate_left; (rintro w' ⟨s0, s1, s2, s3⟩; go_simp; with_reducible rfl); rotate_left; (simp only [Act.put, pSj2, i64_w]; rfl)
        refine one_ (i := 1) (N := some 15) z2j2 rfl rfl (one_of HT_.out (by kernel_rfl)) (by decide) (fun K hK => ?_)
        refine goes_ Tryd.func17 (by kernel_rfl) rfl #[.agg #[.int .i64 a0_0, .slice A0_1 l0_1.length c0_1]] (by rfl) rfl rfl (by (try simp only [List.map_toArray, List.map_cons, List.map_nil]); first | done | rfl | (simp only [List.length_drop, List.length_take]; rfl)) ?_
        with_reducible refine (commodatumlaw12_Wide.calls a0_0 _ _ l0_1 false _ ?side1 ?side2 A6.out).mono ?_
        (case side1 => with_reducible apply_rules [(cD HR0_1.out HB.out), cA, cB, cC])
        (case side2 => exact HC0_1.out)
        rintro e w29 ⟨rfl, hb⟩
        refine ⟨_, rfl, ?_⟩
        replace B12 := aM (bD (g := gb112) (o := .cells #[.int .i64 a0_0, .slice A0_1 l0_1.length c0_1] 25 (0, 0)) (by with_reducible apply_rules [B12.out, bA, bB, bC]) hb)
        replace B13 := aM (bD (g := gb113) (o := .cells #[.int .i64 a1_0, .slice A1_1 l1_1.length c1_1] 25 (0, 0)) (by with_reducible apply_rules [B13.out, bA, bB, bC]) hb)
        replace HB := aM (pS_ (by (with_reducible apply_rules [HB.out, pA, pD, pE, sT, GE112.out, GE113.out])) hb)
        (try clear hb)
        (try clear hb2)
        (try clear hk)
        (try clear hi)
        refine hK.out _ _ ⟨(bE B12.out 0).trans rfl, (bE B12.out 1).trans rfl, (bE B13.out 0).trans rfl, (bE B13.out 1).trans rfl⟩ (fun hHeld => ?_)
        clear hK K
        refine norm_ (a' := ?_) ?_ ?_
        rotate_left
        ·show Act.put _ (some 15) _ = _
         simp only [Act.put, pSj2, i64_w]
         rfl
        refine pure_ (i := 2) (N := some 16) (v := ?_) (a' := ?_) z3j2 rfl rfl (any_of HT_.out (by kernel_rfl)) (fun _ _ _ h => h) (Or.inl ⟨by rfl, ?_⟩) ?_ ?_; rotate_left; (intro w'; go_simp; with_reducible rfl); rotate_left; (simp only [Act.put, pSj2, i64_w]; rfl)
        refine take_ (i := 3) (N := some 17) (v := ?_) (a' := ?_) z4j2 rfl rfl (take_ofW HT_.out HW_.out (by kernel_rfl)) (fun _ _ _ h => h) (Or.inl ⟨by rfl, ?_⟩) hHeld ?_ ?_; rotate_left; (rintro w' ⟨s0, s1, s2, s3⟩; go_simp; with_reducible rfl); rotate_left; (simp only [Act.put, pSj2, i64_w]; rfl)
        refine one_ (i := 4) (N := some 18) z5j2 rfl rfl (one_of HT_.out (by kernel_rfl)) (by decide) (fun K hK => ?_)
        refine goes_ Tryd.func17 (by kernel_rfl) rfl #[.agg #[.int .i64 a1_0, .slice A1_1 l1_1.length c1_1]] (by rfl) rfl rfl (by (try simp only [List.map_toArray, List.map_cons, List.map_nil]); first | done | rfl | (simp only [List.length_drop, List.length_take]; rfl)) ?_
        with_reducible refine (commodatumlaw12_Wide.calls a1_0 _ _ l1_1 false _ ?side1 ?side2 A10.out).mono ?_
        (case side1 => with_reducible apply_rules [(cD HR1_1.out HB.out), cA, cB, cC])
        (case side2 => exact HC1_1.out)
        rintro e w30 ⟨rfl, hb⟩
        refine ⟨_, rfl, ?_⟩
        replace B12 := aM (bD (g := gb112) (o := .cells #[.int .i64 a0_0, .slice A0_1 l0_1.length c0_1] 25 (0, 0)) (by with_reducible apply_rules [B12.out, bA, bB, bC]) hb)
        replace B13 := aM (bD (g := gb113) (o := .cells #[.int .i64 a1_0, .slice A1_1 l1_1.length c1_1] 25 (0, 0)) (by with_reducible apply_rules [B13.out, bA, bB, bC]) hb)
        replace HB := aM (pS_ (by (with_reducible apply_rules [HB.out, pA, pD, pE, sT, GE112.out, GE113.out])) hb)
        (try clear hb)
        (try clear hb2)
        (try clear hk)
        (try clear hi)
        refine hK.out _ _ ⟨(bE B12.out 0).trans rfl, (bE B12.out 1).trans rfl, (bE B13.out 0).trans rfl, (bE B13.out 1).trans rfl⟩ (fun hHeld => ?_)
        clear hK K
        refine norm_ (a' := ?_) ?_ ?_
        rotate_left
        ·show Act.put _ (some 18) _ = _
         simp only [Act.put, pSj2, i64_w]
         rfl
        refine pure_ (i := 5) (N := some 19) (v := ?_) (a' := ?_) z6j2 rfl rfl (any_of HT_.out (by kernel_rfl)) (fun _ _ _ h => h) (Or.inl ⟨by rfl, ?_⟩) ?_ ?_; rotate_left; (intro w'; go_simp; with_reducible rfl); rotate_left; (simp only [Act.put, pSj2, i64_w]; rfl)
        refine pure_ (i := 6) (N := some 20) (v := ?_) (a' := ?_) z7j2 rfl rfl (any_of HT_.out (by kernel_rfl)) (fun _ _ _ h => h) (Or.inl ⟨by rfl, ?_⟩) ?_ ?_; rotate_left; (intro w'; go_simp; with_reducible rfl); rotate_left; (simp only [Act.put, pSj2, i64_w]; rfl)
        refine take_ (i := 7) (N := some 21) (v := ?_) (a' := ?_) z8j2 rfl rfl (take_ofW HT_.out HW_.out (by kernel_rfl)) (fun _ _ _ h => h) (Or.inl ⟨by rfl, ?_⟩) hHeld ?_ ?_; rotate_left; (rintro w' ⟨s0, s1, s2, s3⟩; go_simp; with_reducible rfl); rotate_left; (simp only [Act.put, pSj2, i64_w]; rfl)
        refine one_ (i := 8) (N := some 22) z9j2 rfl rfl (one_of HT_.out (by kernel_rfl)) (by decide) (fun K hK => ?_)
        refine goes_ Tryd.func18 (by kernel_rfl) rfl #[.agg #[.int .i64 a0_0, .slice A0_1 l0_1.length c0_1]] (by rfl) rfl rfl (by (try simp only [List.map_toArray, List.map_cons, List.map_nil]); first | done | rfl | (simp only [List.length_drop, List.length_take]; rfl)) ?_
        with_reducible refine (commodatumref12_Valid.calls k a0_0 _ _ l0_1 true _ ?side1 ?side2 A15.out).mono ?_
        (case side1 => with_reducible apply_rules [(cD HR0_1.out HB.out), cA, cB, cC])
        (case side2 => exact HC0_1.out)
        rintro e w31 ⟨rfl, hb⟩
        refine ⟨_, rfl, ?_⟩
        replace B12 := aM (bD (g := gb112) (o := .cells #[.int .i64 a0_0, .slice A0_1 l0_1.length c0_1] 25 (0, 0)) (by with_reducible apply_rules [B12.out, bA, bB, bC]) hb)
        replace B13 := aM (bD (g := gb113) (o := .cells #[.int .i64 a1_0, .slice A1_1 l1_1.length c1_1] 25 (0, 0)) (by with_reducible apply_rules [B13.out, bA, bB, bC]) hb)
        replace HB := aM (pS_ (by (with_reducible apply_rules [HB.out, pA, pD, pE, sT, GE112.out, GE113.out])) hb)
        (try clear hb)
        (try clear hb2)
        (try clear hk)
        (try clear hi)
        refine hK.out _ _ ⟨(bE B12.out 0).trans rfl, (bE B12.out 1).trans rfl, (bE B13.out 0).trans rfl, (bE B13.out 1).trans rfl⟩ (fun hHeld => ?_)
        clear hK K
        refine norm_ (a' := ?_) ?_ ?_
        rotate_left
        ·show Act.put _ (some 22) _ = _
         simp only [Act.put, pSj2, i64_w]
         rfl
        refine pure_ (i := 9) (N := some 23) (v := ?_) (a' := ?_) z10j2 rfl rfl (any_of HT_.out (by kernel_rfl)) (fun _ _ _ h => h) (Or.inl ⟨by rfl, ?_⟩) ?_ ?_; rotate_left; (intro w'; go_simp; with_reducible rfl); rotate_left; (simp only [Act.put, pSj2, i64_w]; rfl)
        refine pure_ (i := 10) (N := some 24) (v := ?_) (a' := ?_) z11j2 rfl rfl (any_of HT_.out (by kernel_rfl)) (fun _ _ _ h => h) (Or.inl ⟨by rfl, ?_⟩) ?_ ?_; rotate_left; (intro w'; go_simp; with_reducible rfl); rotate_left; (simp only [Act.put, pSj2, i64_w]; rfl)
        refine pure_ (i := 11) (N := some 25) (v := ?_) (a' := ?_) z12j2 rfl rfl (any_of HT_.out (by kernel_rfl)) (fun _ _ _ h => h) (Or.inl ⟨by rfl, ?_⟩) ?_ ?_; rotate_left; (intro w'; go_simp; with_reducible rfl); rotate_left; (simp only [Act.put, pSj2, i64_w]; rfl)
        refine take_ (i := 12) (N := some 26) (v := ?_) (a' := ?_) z13j2 rfl rfl (take_ofW HT_.out HW_.out (by kernel_rfl)) (fun _ _ _ h => h) (Or.inl ⟨by rfl, ?_⟩) hHeld ?_ ?_; rotate_left; (rintro w' ⟨s0, s1, s2, s3⟩; go_simp; with_reducible rfl); rotate_left; (simp only [Act.put, pSj2, i64_w]; rfl)
        refine one_ (i := 13) (N := some 27) z14j2 rfl rfl (one_of HT_.out (by kernel_rfl)) (by decide) (fun K hK => ?_)
        refine goes_ Tryd.func18 (by kernel_rfl) rfl #[.agg #[.int .i64 a1_0, .slice A1_1 l1_1.length c1_1]] (by rfl) rfl rfl (by (try simp only [List.map_toArray, List.map_cons, List.map_nil]); first | done | rfl | (simp only [List.length_drop, List.length_take]; rfl)) ?_
        with_reducible refine (commodatumref12_Valid.calls k a1_0 _ _ l1_1 true _ ?side1 ?side2 A17.out).mono ?_
        (case side1 => with_reducible apply_rules [(cD HR1_1.out HB.out), cA, cB, cC])
        (case side2 => exact HC1_1.out)
        rintro e w32 ⟨rfl, hb⟩
        refine ⟨_, rfl, ?_⟩
        replace B12 := aM (bD (g := gb112) (o := .cells #[.int .i64 a0_0, .slice A0_1 l0_1.length c0_1] 25 (0, 0)) (by with_reducible apply_rules [B12.out, bA, bB, bC]) hb)
        replace B13 := aM (bD (g := gb113) (o := .cells #[.int .i64 a1_0, .slice A1_1 l1_1.length c1_1] 25 (0, 0)) (by with_reducible apply_rules [B13.out, bA, bB, bC]) hb)
        replace HB := aM (pS_ (by (with_reducible apply_rules [HB.out, pA, pD, pE, sT, GE112.out, GE113.out])) hb)
        (try clear hb)
        (try clear hb2)
        (try clear hk)
        (try clear hi)
        refine hK.out _ _ ⟨(bE B12.out 0).trans rfl, (bE B12.out 1).trans rfl, (bE B13.out 0).trans rfl, (bE B13.out 1).trans rfl⟩ (fun hHeld => ?_)
        clear hK K
        refine norm_ (a' := ?_) ?_ ?_
        rotate_left
        ·show Act.put _ (some 27) _ = _
         simp only [Act.put, pSj2, i64_w]
         rfl
        refine pure_ (i := 14) (N := some 28) (v := ?_) (a' := ?_) z15j2 rfl rfl (any_of HT_.out (by kernel_rfl)) (fun _ _ _ h => h) (Or.inl ⟨by rfl, ?_⟩) ?_ ?_; rotate_left; (intro w'; go_simp; with_reducible rfl); rotate_left; (simp only [Act.put, pSj2, i64_w]; rfl)
        refine pure_ (i := 15) (N := some 29) (v := ?_) (a' := ?_) z16j2 rfl rfl (any_of HT_.out (by kernel_rfl)) (fun _ _ _ h => h) (Or.inl ⟨by rfl, ?_⟩) ?_ ?_; rotate_left; (intro w'; go_simp; with_reducible rfl); rotate_left; (simp only [Act.put, pSj2, i64_w]; rfl)
        refine pure_ (i := 16) (N := some 30) (v := ?_) (a' := ?_) z17j2 rfl rfl (any_of HT_.out (by kernel_rfl)) (fun _ _ _ h => h) (Or.inl ⟨by rfl, ?_⟩) ?_ ?_; rotate_left; (intro w'; go_simp; with_reducible rfl); rotate_left; (simp only [Act.put, pSj2, i64_w]; rfl)
        refine pure_ (i := 17) (N := some 31) (v := ?_) (a' := ?_) z18j2 rfl rfl (any_of HT_.out (by kernel_rfl)) (fun _ _ _ h => h) (Or.inl ⟨by rfl, ?_⟩) ?_ ?_; rotate_left; (intro w'; go_simp; with_reducible rfl); rotate_left; (simp only [Act.put, pSj2, i64_w]; rfl)
        refine pure_ (i := 19) (N := some 33) (v := ?_) (a' := ?_) z38j2 rfl rfl (any_of HT_.out (by kernel_rfl)) (fun _ _ _ h => h) (Or.inl ⟨by rfl, ?_⟩) ?_ ?_; rotate_left; (intro w'; go_simp; with_reducible rfl); rotate_left; (simp only [Act.put, pSj2, i64_w]; rfl)
        refine take_ (i := 18) (N := some 32) (v := ?_) (a' := ?_) z20j2 rfl rfl (take_ofW HT_.out HW_.out (by kernel_rfl)) (fun _ _ _ h => h) (Or.inl ⟨by rfl, ?_⟩) hHeld ?_ ?_; rotate_left; (rintro w' ⟨s0, s1, s2, s3⟩; go_simp; with_reducible rfl); rotate_left; (simp only [Act.put, pSj2, i64_w]; rfl)
        refine take_ (i := 20) (N := some 34) (v := ?_) (a' := ?_) z21j2 rfl rfl (take_ofW HT_.out HW_.out (by kernel_rfl)) (fun _ _ _ h => h) (Or.inl ⟨by rfl, ?_⟩) hHeld ?_ ?_; rotate_left; (rintro w' ⟨s0, s1, s2, s3⟩; go_simp; with_reducible rfl); rotate_left; (simp only [Act.put, pSj2, i64_w]; rfl)
        refine pure_ (i := 21) (N := some 35) (v := ?_) (a' := ?_) z22j2 rfl rfl (any_of HT_.out (by kernel_rfl)) (fun _ _ _ h => h) (Or.inl ⟨by rfl, ?_⟩) ?_ ?_; rotate_left; (intro w'; go_simp; with_reducible rfl); rotate_left; (simp only [Act.put, pSj2, i64_w]; rfl)
        refine pure_ (i := 22) (N := some 36) (v := ?_) (a' := ?_) z23j2 rfl rfl (any_of HT_.out (by kernel_rfl)) (fun _ _ _ h => h) (Or.inl ⟨by rfl, ?_⟩) ?_ ?_; rotate_left; (intro w'; go_simp; with_reducible rfl); rotate_left; (simp only [Act.put, pSj2, i64_w]; rfl)
        refine pure_ (i := 23) (N := some 37) (v := ?_) (a' := ?_) z24j2 rfl rfl (any_of HT_.out (by kernel_rfl)) (fun _ _ _ h => h) (Or.inl ⟨by rfl, ?_⟩) ?_ ?_; rotate_left; (intro w'; go_simp; with_reducible rfl); rotate_left; (simp only [Act.put, pSj2, i64_w]; rfl)
        refine pure_ (i := 24) (N := some 38) (v := ?_) (a' := ?_) z25j2 rfl rfl (any_of HT_.out (by kernel_rfl)) (fun _ _ _ h => h) (Or.inl ⟨by rfl, ?_⟩) ?_ ?_; rotate_left; (intro w'; go_simp; with_reducible rfl); rotate_left; (simp only [Act.put, pSj2, i64_w]; rfl)
        refine take_ (i := 25) (N := some 39) (v := ?_) (a' := ?_) z26j2 rfl rfl (take_ofW HT_.out HW_.out (by kernel_rfl)) (fun _ _ _ h => h) (Or.inl ⟨by rfl, ?_⟩) hHeld ?_ ?_; rotate_left; (rintro w' ⟨s0, s1, s2, s3⟩; go_simp; with_reducible rfl); rotate_left; (simp only [Act.put, pSj2, i64_w]; rfl)
        refine pure_ (i := 26) (N := some 40) (v := ?_) (a' := ?_) z27j2 rfl rfl (any_of HT_.out (by kernel_rfl)) (fun _ _ _ h => h) (Or.inl ⟨by rfl, ?_⟩) ?_ ?_; rotate_left; (intro w'; go_simp; with_reducible rfl); rotate_left; (simp only [Act.put, pSj2, i64_w]; rfl)
        refine pure_ (i := 27) (N := some 41) (v := ?_) (a' := ?_) z28j2 rfl rfl (any_of HT_.out (by kernel_rfl)) (fun _ _ _ h => h) (Or.inl ⟨by rfl, ?_⟩) ?_ ?_; rotate_left; (intro w'; go_simp; with_reducible rfl); rotate_left; (simp only [Act.put, pSj2, i64_w]; rfl)
        refine pure_ (i := 28) (N := some 42) (v := ?_) (a' := ?_) z29j2 rfl rfl (any_of HT_.out (by kernel_rfl)) (fun _ _ _ h => h) (Or.inl ⟨by rfl, ?_⟩) ?_ ?_; rotate_left; (intro w'; go_simp; with_reducible rfl); rotate_left; (simp only [Act.put, pSj2, i64_w]; rfl)
        refine pure_ (i := 32) (N := some 46) (v := ?_) (a' := ?_) z39j2 rfl rfl (any_of HT_.out (by kernel_rfl)) (fun _ _ _ h => h) (Or.inl ⟨by rfl, ?_⟩) ?_ ?_; rotate_left; (intro w'; go_simp; with_reducible rfl); rotate_left; (simp only [Act.put, pSj2, i64_w]; rfl)
        refine take_ (i := 29) (N := some 43) (v := ?_) (a' := ?_) z40j2 rfl rfl (take_ofW HT_.out HW_.out (by kernel_rfl)) (fun _ _ _ h => h) (Or.inl ⟨by rfl, ?_⟩) hHeld ?_ ?_; rotate_left; (rintro w' ⟨s0, s1, s2, s3⟩; go_simp; with_reducible rfl); rotate_left; (simp only [Act.put, pSj2, i64_w]; rfl)
        refine take_ (i := 30) (N := some 44) (v := ?_) (a' := ?_) z41j2 rfl rfl (take_ofW HT_.out HW_.out (by kernel_rfl)) (fun _ _ _ h => h) (Or.inl ⟨by rfl, ?_⟩) hHeld ?_ ?_; rotate_left; (rintro w' ⟨s0, s1, s2, s3⟩; go_simp; with_reducible rfl); rotate_left; (simp only [Act.put, pSj2, i64_w]; rfl)
        refine take_ (i := 33) (N := some 47) (v := ?_) (a' := ?_) z42j2 rfl rfl (take_ofW HT_.out HW_.out (by kernel_rfl)) (fun _ _ _ h => h) (Or.inl ⟨by rfl, ?_⟩) hHeld ?_ ?_; rotate_left; (rintro w' ⟨s0, s1, s2, s3⟩; go_simp; with_reducible rfl); rotate_left; (simp only [Act.put, pSj2, i64_w]; rfl)
        refine one_ (i := 31) (N := some 45) z34j2 rfl rfl (one_of HT_.out (by kernel_rfl)) (by decide) (fun K hK => ?_)
        refine goes_ Tryd.func37 (by kernel_rfl) rfl #[.agg #[.int .i64 a0_0, .slice A0_1 l0_1.length c0_1], .agg #[.int .i64 a1_0, .slice A1_1 l1_1.length c1_1]] (by rfl) rfl rfl (by (try simp only [List.map_toArray, List.map_cons, List.map_nil]); first | done | rfl | (simp only [List.length_drop, List.length_take]; rfl)) ?_
        with_reducible refine (commodatumref12_Join.calls a0_0 _ _ l0_1 a1_0 _ _ l1_1 t118 t119 _ ?side1 ?side2 ?side3 ?side4 A26.out).mono ?_
        (case side1 => with_reducible apply_rules [(cD HR0_1.out HB.out), cA, cB, cC])
        (case side2 => exact HC0_1.out)
        (case side3 => with_reducible apply_rules [(cD HR1_1.out HB.out), cA, cB, cC])
        (case side4 => exact HC1_1.out)
        rintro e w33 ⟨v120, rfl, ho0, hb⟩
        refine ⟨_, rfl, ?_⟩
        have HO121 := aM (Kd.R_lower ho0 (below_size (by (with_reducible apply_rules [HB.out, pA, pD, pE, sT, GE112.out, GE113.out]))))
        replace B12 := aM (bD (g := gb112) (o := .cells #[.int .i64 a0_0, .slice A0_1 l0_1.length c0_1] 25 (0, 0)) (by with_reducible apply_rules [B12.out, bA, bB, bC]) hb)
        replace B13 := aM (bD (g := gb113) (o := .cells #[.int .i64 a1_0, .slice A1_1 l1_1.length c1_1] 25 (0, 0)) (by with_reducible apply_rules [B13.out, bA, bB, bC]) hb)
        replace HB := aM (pS_ (by (with_reducible apply_rules [HB.out, pA, pD, pE, sT, GE112.out, GE113.out])) hb)
        (try clear hb)
        (try clear hb2)
        (try clear hk)
        (try clear hi)
        (try clear ho0)
        obtain ⟨Ao34, co34, eo34⟩ := Kd.R_slice HO121.out
        (first | subst eo34 | (injection eo34 with f1_ f2_ f3_; have f4_ := f1_.symm; have f5_ := f3_.symm; clear f1_ f2_ f3_; subst f4_; subst f5_))
        refine hK.out _ _ ⟨(bE B12.out 0).trans rfl, (bE B12.out 1).trans rfl, (bE B13.out 0).trans rfl, (bE B13.out 1).trans rfl⟩ (fun hHeld => ?_)
        clear hK K
        refine norm_ (a' := ?_) ?_ ?_
        rotate_left
        ·show Act.put _ (some 45) _ = _
         simp only [Act.put, pSj2, i64_w]
         rfl
        refine one_ (i := 34) (N := some 48) z35j2 rfl rfl (one_of HT_.out (by kernel_rfl)) (by decide) (fun K hK => ?_)
        refine goes_ Tryd.func19 (by kernel_rfl) rfl #[.agg #[.int .i64 t118, .slice Ao34 t119.length co34], .int .i64 a0_0] (by rfl) rfl rfl (by (try simp only [List.map_toArray, List.map_cons, List.map_nil]); first | done | rfl | (simp only [List.length_drop, List.length_take]; rfl)) ?_
        with_reducible refine (commodatumref12_Cost.calls t118 _ _ t119 a0_0 t122 _ ?side1 ?side2 A27.out).mono ?_
        (case side1 => repeat (first | exact (Kd.R_reads' HO121.out).2.2 | (with_reducible refine cA ?_ _) | (with_reducible refine cB ?_ _) | (with_reducible refine cC ?_)))
        (case side2 => exact (Kd.R_reads' HO121.out).2.1)
        rintro e w35 ⟨rfl, hb⟩
        refine ⟨_, rfl, ?_⟩
        replace HO121 := aM (rD (by with_reducible apply_rules [HO121.out, rA, rB, rC]) hb)
        replace B12 := aM (bD (g := gb112) (o := .cells #[.int .i64 a0_0, .slice A0_1 l0_1.length c0_1] 25 (0, 0)) (by with_reducible apply_rules [B12.out, bA, bB, bC]) hb)
        replace B13 := aM (bD (g := gb113) (o := .cells #[.int .i64 a1_0, .slice A1_1 l1_1.length c1_1] 25 (0, 0)) (by with_reducible apply_rules [B13.out, bA, bB, bC]) hb)
        replace HB := aM (pS_ (by (with_reducible apply_rules [HB.out, pA, pD, pE, sT, GE112.out, GE113.out])) hb)
        (try clear hb)
        (try clear hb2)
        (try clear hk)
        (try clear hi)
        refine hK.out _ _ ⟨(bE B12.out 0).trans rfl, (bE B12.out 1).trans rfl, (bE B13.out 0).trans rfl, (bE B13.out 1).trans rfl⟩ (fun hHeld => ?_)
        clear hK K
        refine norm_ (a' := ?_) ?_ ?_
        rotate_left
        ·show Act.put _ (some 48) _ = _
         simp only [Act.put, pSj2, i64_w]
         rfl
        refine pure_ (i := 35) (N := some 49) (v := ?_) (a' := ?_) z36j2 rfl rfl (any_of HT_.out (by kernel_rfl)) (fun _ _ _ h => h) (Or.inl ⟨by rfl, ?_⟩) ?_ ?_; rotate_left; (intro w'; go_simp; with_reducible rfl); rotate_left; (simp only [Act.put, pSj2, i64_w]; rfl)
        refine pure_ (i := 36) (N := some 50) (v := ?_) (a' := ?_) z37j2 rfl rfl (any_of HT_.out (by kernel_rfl)) (fun _ _ _ h => h) (Or.inl ⟨by rfl, ?_⟩) ?_ ?_; rotate_left; (intro w'; go_simp; with_reducible rfl); rotate_left; (simp only [Act.put, pSj2, i64_w]; rfl)
        refine done_ (done_of HT_.out (by kernel_rfl)) ?_
        try go_wp2
        go_meet
        case rel => exact ⟨_, (decide (t122 > 400000)), (by first | rfl | (simp; done) | (simp [*]; done)), H', ⟨by first | omega | exact Nat.le_refl _⟩, ⟨by with_reducible apply_rules [B12.out, bA, bB, bC]⟩, ⟨by with_reducible apply_rules [B13.out, bA, bB, bC]⟩, ⟨by (with_reducible apply_rules [HB.out, pA, pD, pE, sT, GE112.out, GE113.out])⟩⟩
      ·rw [if_neg c19] at H
       have c19b0 : (a0_0 == a1_0) = false := beq_eq_false_iff_ne.mpr c19
       have c19b1 : (a0_0 != a1_0) = true := bne_iff_ne.mpr c19
       (first | rw [c19b0] | (simp only [i64_w, i32_w]; rw [c19b0]) | skip)
       have H' := aM H
       clear H
       try go_wp2
       replace B12 := aM (bB B12.out)
       replace B13 := aM (bB B13.out)
       replace HB := aM (pE HB.out)
       refine start_ (n := 37) (S := fun w' => w'.cell? ⟨gb112, 0, none⟩ = some (.int .i64 a0_0) ∧ w'.cell? ⟨gb112, 1, none⟩ = some (.slice A0_1 l0_1.length c0_1) ∧ w'.cell? ⟨gb113, 0, none⟩ = some (.int .i64 a1_0) ∧ w'.cell? ⟨gb113, 1, none⟩ = some (.slice A1_1 l1_1.length c1_1)) (ds := []) z0j2 (by kernel_rfl) rfl rfl ⟨(bE B12.out 0).trans rfl, (bE B12.out 1).trans rfl, (bE B13.out 0).trans rfl, (bE B13.out 1).trans rfl⟩ (fun hHeld => ?_); refine with_tabW commodatumlaw12_UndoJoined.tab1 commodatumlaw12_UndoJoined.bits1 (fun HT_ HW_ => ?_)
       generalize w5.drew = w36 at B12 B13 HB hHeld ⊢
       refine take_ (i := 0) (N := some 14) (v := ?_) (a' := ?_) z1j2 rfl rfl (take_ofW HT_.out HW_.out (by kernel_rfl)) (fun _ _ _ h => h) (Or.inl ⟨by rfl, ?_⟩) hHeld ?_ ?_; rotate_left; (rintro w' ⟨s0, s1, s2, s3⟩; go_simp; with_reducible rfl); rotate_left; (simp only [Act.put, pSj2, i64_w]; rfl)
       refine one_ (i := 1) (N := some 15) z2j2 rfl rfl (one_of HT_.out (by kernel_rfl)) (by decide) (fun K hK => ?_)
       refine goes_ Tryd.func17 (by kernel_rfl) rfl #[.agg #[.int .i64 a0_0, .slice A0_1 l0_1.length c0_1]] (by rfl) rfl rfl (by (try simp only [List.map_toArray, List.map_cons, List.map_nil]); first | done | rfl | (simp only [List.length_drop, List.length_take]; rfl)) ?_
       with_reducible refine (commodatumlaw12_Wide.calls a0_0 _ _ l0_1 false _ ?side1 ?side2 A6.out).mono ?_
       (case side1 => with_reducible apply_rules [(cD HR0_1.out HB.out), cA, cB, cC])
       (case side2 => exact HC0_1.out)
       rintro e w37 ⟨rfl, hb⟩
       refine ⟨_, rfl, ?_⟩
       replace B12 := aM (bD (g := gb112) (o := .cells #[.int .i64 a0_0, .slice A0_1 l0_1.length c0_1] 25 (0, 0)) (by with_reducible apply_rules [B12.out, bA, bB, bC]) hb)
       replace B13 := aM (bD (g := gb113) (o := .cells #[.int .i64 a1_0, .slice A1_1 l1_1.length c1_1] 25 (0, 0)) (by with_reducible apply_rules [B13.out, bA, bB, bC]) hb)
       replace HB := aM (pS_ (by (with_reducible apply_rules [HB.out, pA, pD, pE, sT, GE112.out, GE113.out])) hb)
       (try clear hb)
       (try clear hb2)
       (try clear hk)
       (try clear hi)
       refine hK.out _ _ ⟨(bE B12.out 0).trans rfl, (bE B12.out 1).trans rfl, (bE B13.out 0).trans rfl, (bE B13.out 1).trans rfl⟩ (fun hHeld => ?_)
       clear hK K
       refine norm_ (a' := ?_) ?_ ?_
       rotate_left
       ·show Act.put _ (some 15) _ = _
        simp only [Act.put, pSj2, i64_w]
        rfl
       refine pure_ (i := 2) (N := some 16) (v := ?_) (a' := ?_) z3j2 rfl rfl (any_of HT_.out (by kernel_rfl)) (fun _ _ _ h => h) (Or.inl ⟨by rfl, ?_⟩) ?_ ?_; rotate_left; (intro w'; go_simp; with_reducible rfl); rotate_left; (simp only [Act.put, pSj2, i64_w]; rfl)
       refine take_ (i := 3) (N := some 17) (v := ?_) (a' := ?_) z4j2 rfl rfl (take_ofW HT_.out HW_.out (by kernel_rfl)) (fun _ _ _ h => h) (Or.inl ⟨by rfl, ?_⟩) hHeld ?_ ?_; rotate_left; (rintro w' ⟨s0, s1, s2, s3⟩; go_simp; with_reducible rfl); rotate_left; (simp only [Act.put, pSj2, i64_w]; rfl)
       refine one_ (i := 4) (N := some 18) z5j2 rfl rfl (one_of HT_.out (by kernel_rfl)) (by decide) (fun K hK => ?_)
       refine goes_ Tryd.func17 (by kernel_rfl) rfl #[.agg #[.int .i64 a1_0, .slice A1_1 l1_1.length c1_1]] (by rfl) rfl rfl (by (try simp only [List.map_toArray, List.map_cons, List.map_nil]); first | done | rfl | (simp only [List.length_drop, List.length_take]; rfl)) ?_
       with_reducible refine (commodatumlaw12_Wide.calls a1_0 _ _ l1_1 false _ ?side1 ?side2 A10.out).mono ?_
       (case side1 => with_reducible apply_rules [(cD HR1_1.out HB.out), cA, cB, cC])
       (case side2 => exact HC1_1.out)
       rintro e w38 ⟨rfl, hb⟩
       refine ⟨_, rfl, ?_⟩
       replace B12 := aM (bD (g := gb112) (o := .cells #[.int .i64 a0_0, .slice A0_1 l0_1.length c0_1] 25 (0, 0)) (by with_reducible apply_rules [B12.out, bA, bB, bC]) hb)
       replace B13 := aM (bD (g := gb113) (o := .cells #[.int .i64 a1_0, .slice A1_1 l1_1.length c1_1] 25 (0, 0)) (by with_reducible apply_rules [B13.out, bA, bB, bC]) hb)
       replace HB := aM (pS_ (by (with_reducible apply_rules [HB.out, pA, pD, pE, sT, GE112.out, GE113.out])) hb)
       (try clear hb)
       (try clear hb2)
       (try clear hk)
       (try clear hi)
       refine hK.out _ _ ⟨(bE B12.out 0).trans rfl, (bE B12.out 1).trans rfl, (bE B13.out 0).trans rfl, (bE B13.out 1).trans rfl⟩ (fun hHeld => ?_)
       clear hK K
       refine norm_ (a' := ?_) ?_ ?_
       rotate_left
       ·show Act.put _ (some 18) _ = _
        simp only [Act.put, pSj2, i64_w]
        rfl
       refine pure_ (i := 5) (N := some 19) (v := ?_) (a' := ?_) z6j2 rfl rfl (any_of HT_.out (by kernel_rfl)) (fun _ _ _ h => h) (Or.inl ⟨by rfl, ?_⟩) ?_ ?_; rotate_left; (intro w'; go_simp; with_reducible rfl); rotate_left; (simp only [Act.put, pSj2, i64_w]; rfl)
       refine pure_ (i := 6) (N := some 20) (v := ?_) (a' := ?_) z7j2 rfl rfl (any_of HT_.out (by kernel_rfl)) (fun _ _ _ h => h) (Or.inl ⟨by rfl, ?_⟩) ?_ ?_; rotate_left; (intro w'; go_simp; with_reducible rfl); rotate_left; (simp only [Act.put, pSj2, i64_w]; rfl)
       refine take_ (i := 7) (N := some 21) (v := ?_) (a' := ?_) z8j2 rfl rfl (take_ofW HT_.out HW_.out (by kernel_rfl)) (fun _ _ _ h => h) (Or.inl ⟨by rfl, ?_⟩) hHeld ?_ ?_; rotate_left; (rintro w' ⟨s0, s1, s2, s3⟩; go_simp; with_reducible rfl); rotate_left; (simp only [Act.put, pSj2, i64_w]; rfl)
       refine one_ (i := 8) (N := some 22) z9j2 rfl rfl (one_of HT_.out (by kernel_rfl)) (by decide) (fun K hK => ?_)
       refine goes_ Tryd.func18 (by kernel_rfl) rfl #[.agg #[.int .i64 a0_0, .slice A0_1 l0_1.length c0_1]] (by rfl) rfl rfl (by (try simp only [List.map_toArray, List.map_cons, List.map_nil]); first | done | rfl | (simp only [List.length_drop, List.length_take]; rfl)) ?_
       with_reducible refine (commodatumref12_Valid.calls k a0_0 _ _ l0_1 true _ ?side1 ?side2 A15.out).mono ?_
       (case side1 => with_reducible apply_rules [(cD HR0_1.out HB.out), cA, cB, cC])
       (case side2 => exact HC0_1.out)
       rintro e w39 ⟨rfl, hb⟩
       refine ⟨_, rfl, ?_⟩
       replace B12 := aM (bD (g := gb112) (o := .cells #[.int .i64 a0_0, .slice A0_1 l0_1.length c0_1] 25 (0, 0)) (by with_reducible apply_rules [B12.out, bA, bB, bC]) hb)
       replace B13 := aM (bD (g := gb113) (o := .cells #[.int .i64 a1_0, .slice A1_1 l1_1.length c1_1] 25 (0, 0)) (by with_reducible apply_rules [B13.out, bA, bB, bC]) hb)
       replace HB := aM (pS_ (by (with_reducible apply_rules [HB.out, pA, pD, pE, sT, GE112.out, GE113.out])) hb)
       (try clear hb)
       (try clear hb2)
       (try clear hk)
       (try clear hi)
       refine hK.out _ _ ⟨(bE B12.out 0).trans rfl, (bE B12.out 1).trans rfl, (bE B13.out 0).trans rfl, (bE B13.out 1).trans rfl⟩ (fun hHeld => ?_)
       clear hK K
       refine norm_ (a' := ?_) ?_ ?_
       rotate_left
       ·show Act.put _ (some 22) _ = _
        simp only [Act.put, pSj2, i64_w]
        rfl
       refine pure_ (i := 9) (N := some 23) (v := ?_) (a' := ?_) z10j2 rfl rfl (any_of HT_.out (by kernel_rfl)) (fun _ _ _ h => h) (Or.inl ⟨by rfl, ?_⟩) ?_ ?_; rotate_left; (intro w'; go_simp; with_reducible rfl); rotate_left; (simp only [Act.put, pSj2, i64_w]; rfl)
       refine pure_ (i := 10) (N := some 24) (v := ?_) (a' := ?_) z11j2 rfl rfl (any_of HT_.out (by kernel_rfl)) (fun _ _ _ h => h) (Or.inl ⟨by rfl, ?_⟩) ?_ ?_; rotate_left; (intro w'; go_simp; with_reducible rfl); rotate_left; (simp only [Act.put, pSj2, i64_w]; rfl)
       refine pure_ (i := 11) (N := some 25) (v := ?_) (a' := ?_) z12j2 rfl rfl (any_of HT_.out (by kernel_rfl)) (fun _ _ _ h => h) (Or.inl ⟨by rfl, ?_⟩) ?_ ?_; rotate_left; (intro w'; go_simp; with_reducible rfl); rotate_left; (simp only [Act.put, pSj2, i64_w]; rfl)
       refine take_ (i := 12) (N := some 26) (v := ?_) (a' := ?_) z13j2 rfl rfl (take_ofW HT_.out HW_.out (by kernel_rfl)) (fun _ _ _ h => h) (Or.inl ⟨by rfl, ?_⟩) hHeld ?_ ?_; rotate_left; (rintro w' ⟨s0, s1, s2, s3⟩; go_simp; with_reducible rfl); rotate_left; (simp only [Act.put, pSj2, i64_w]; rfl)
       refine one_ (i := 13) (N := some 27) z14j2 rfl rfl (one_of HT_.out (by kernel_rfl)) (by decide) (fun K hK => ?_)
       refine goes_ Tryd.func18 (by kernel_rfl) rfl #[.agg #[.int .i64 a1_0, .slice A1_1 l1_1.length c1_1]] (by rfl) rfl rfl (by (try simp only [List.map_toArray, List.map_cons, List.map_nil]); first | done | rfl | (simp only [List.length_drop, List.length_take]; rfl)) ?_
       with_reducible refine (commodatumref12_Valid.calls k a1_0 _ _ l1_1 true _ ?side1 ?side2 A17.out).mono ?_
       (case side1 => with_reducible apply_rules [(cD HR1_1.out HB.out), cA, cB, cC])
       (case side2 => exact HC1_1.out)
       rintro e w40 ⟨rfl, hb⟩
       refine ⟨_, rfl, ?_⟩
       replace B12 := aM (bD (g := gb112) (o := .cells #[.int .i64 a0_0, .slice A0_1 l0_1.length c0_1] 25 (0, 0)) (by with_reducible apply_rules [B12.out, bA, bB, bC]) hb)
       replace B13 := aM (bD (g := gb113) (o := .cells #[.int .i64 a1_0, .slice A1_1 l1_1.length c1_1] 25 (0, 0)) (by with_reducible apply_rules [B13.out, bA, bB, bC]) hb)
       replace HB := aM (pS_ (by (with_reducible apply_rules [HB.out, pA, pD, pE, sT, GE112.out, GE113.out])) hb)
       (try clear hb)
       (try clear hb2)
       (try clear hk)
       (try clear hi)
       refine hK.out _ _ ⟨(bE B12.out 0).trans rfl, (bE B12.out 1).trans rfl, (bE B13.out 0).trans rfl, (bE B13.out 1).trans rfl⟩ (fun hHeld => ?_)
       clear hK K
       refine norm_ (a' := ?_) ?_ ?_
       rotate_left
       ·show Act.put _ (some 27) _ = _
        simp only [Act.put, pSj2, i64_w]
        rfl
       refine pure_ (i := 14) (N := some 28) (v := ?_) (a' := ?_) z15j2 rfl rfl (any_of HT_.out (by kernel_rfl)) (fun _ _ _ h => h) (Or.inl ⟨by rfl, ?_⟩) ?_ ?_; rotate_left; (intro w'; go_simp; with_reducible rfl); rotate_left; (simp only [Act.put, pSj2, i64_w]; rfl)
       refine pure_ (i := 15) (N := some 29) (v := ?_) (a' := ?_) z16j2 rfl rfl (any_of HT_.out (by kernel_rfl)) (fun _ _ _ h => h) (Or.inl ⟨by rfl, ?_⟩) ?_ ?_; rotate_left; (intro w'; go_simp; with_reducible rfl); rotate_left; (simp only [Act.put, pSj2, i64_w]; rfl)
       refine pure_ (i := 16) (N := some 30) (v := ?_) (a' := ?_) z17j2 rfl rfl (any_of HT_.out (by kernel_rfl)) (fun _ _ _ h => h) (Or.inl ⟨by rfl, ?_⟩) ?_ ?_; rotate_left; (intro w'; go_simp; with_reducible rfl); rotate_left; (simp only [Act.put, pSj2, i64_w]; rfl)
       refine pure_ (i := 17) (N := some 31) (v := ?_) (a' := ?_) z18j2 rfl rfl (any_of HT_.out (by kernel_rfl)) (fun _ _ _ h => h) (Or.inl ⟨by rfl, ?_⟩) ?_ ?_; rotate_left; (intro w'; go_simp; with_reducible rfl); rotate_left; (simp only [Act.put, pSj2, i64_w]; rfl)
       refine pure_ (i := 19) (N := some 33) (v := ?_) (a' := ?_) z38j2 rfl rfl (any_of HT_.out (by kernel_rfl)) (fun _ _ _ h => h) (Or.inl ⟨by rfl, ?_⟩) ?_ ?_; rotate_left; (intro w'; go_simp; with_reducible rfl); rotate_left; (simp only [Act.put, pSj2, i64_w]; rfl)
       refine take_ (i := 18) (N := some 32) (v := ?_) (a' := ?_) z20j2 rfl rfl (take_ofW HT_.out HW_.out (by kernel_rfl)) (fun _ _ _ h => h) (Or.inl ⟨by rfl, ?_⟩) hHeld ?_ ?_; rotate_left; (rintro w' ⟨s0, s1, s2, s3⟩; go_simp; with_reducible rfl); rotate_left; (simp only [Act.put, pSj2, i64_w]; rfl)
       refine take_ (i := 20) (N := some 34) (v := ?_) (a' := ?_) z21j2 rfl rfl (take_ofW HT_.out HW_.out (by kernel_rfl)) (fun _ _ _ h => h) (Or.inl ⟨by rfl, ?_⟩) hHeld ?_ ?_; rotate_left; (rintro w' ⟨s0, s1, s2, s3⟩; go_simp; with_reducible rfl); rotate_left; (simp only [Act.put, pSj2, i64_w]; rfl)
       refine pure_ (i := 21) (N := some 35) (v := ?_) (a' := ?_) z22j2 rfl rfl (any_of HT_.out (by kernel_rfl)) (fun _ _ _ h => h) (Or.inl ⟨by rfl, ?_⟩) ?_ ?_; rotate_left; (intro w'; go_simp; with_reducible rfl); rotate_left; (simp only [Act.put, pSj2, i64_w]; rfl)
       refine pure_ (i := 22) (N := some 36) (v := ?_) (a' := ?_) z23j2 rfl rfl (any_of HT_.out (by kernel_rfl)) (fun _ _ _ h => h) (Or.inl ⟨by rfl, ?_⟩) ?_ ?_; rotate_left; (intro w'; go_simp; with_reducible rfl); rotate_left; (simp only [Act.put, pSj2, i64_w]; rfl)
       refine pure_ (i := 23) (N := some 37) (v := ?_) (a' := ?_) z24j2 rfl rfl (any_of HT_.out (by kernel_rfl)) (fun _ _ _ h => h) (Or.inl ⟨by rfl, ?_⟩) ?_ ?_; rotate_left; (intro w'; go_simp; with_reducible rfl); rotate_left; (simp only [Act.put, pSj2, i64_w]; rfl)
       refine pure_ (i := 24) (N := some 38) (v := undef) (a' := ?_) z25j2 rfl rfl (any_of HT_.out (by kernel_rfl)) (fun _ _ _ h => h) (Or.inr ⟨by rfl, rfl⟩) ?_ ?_
       rotate_left
       ·simp only [Act.put, pSj2, i64_w]
        rfl
       refine pure_ (i := 25) (N := some 39) (v := undef) (a' := ?_) z26j2 rfl rfl (any_of HT_.out (by kernel_rfl)) (fun _ _ _ h => h) (Or.inr ⟨by rfl, rfl⟩) ?_ ?_
       rotate_left
       ·simp only [Act.put, pSj2, i64_w]
        rfl
       refine pure_ (i := 26) (N := some 40) (v := undef) (a' := ?_) z27j2 rfl rfl (any_of HT_.out (by kernel_rfl)) (fun _ _ _ h => h) (Or.inr ⟨by rfl, rfl⟩) ?_ ?_
       rotate_left
       ·simp only [Act.put, pSj2, i64_w]
        rfl
       refine pure_ (i := 27) (N := some 41) (v := ?_) (a' := ?_) z28j2 rfl rfl (any_of HT_.out (by kernel_rfl)) (fun _ _ _ h => h) (Or.inl ⟨by rfl, ?_⟩) ?_ ?_; rotate_left; (intro w'; go_simp; with_reducible rfl); rotate_left; (simp only [Act.put, pSj2, i64_w]; rfl)
       refine pure_ (i := 28) (N := some 42) (v := ?_) (a' := ?_) z29j2 rfl rfl (any_of HT_.out (by kernel_rfl)) (fun _ _ _ h => h) (Or.inl ⟨by rfl, ?_⟩) ?_ ?_; rotate_left; (intro w'; go_simp; with_reducible rfl); rotate_left; (simp only [Act.put, pSj2, i64_w]; rfl)
       refine pure_ (i := 29) (N := some 43) (v := undef) (a' := ?_) z30j2 rfl rfl (any_of HT_.out (by kernel_rfl)) (fun _ _ _ h => h) (Or.inr ⟨by rfl, rfl⟩) ?_ ?_
       rotate_left
       ·simp only [Act.put, pSj2, i64_w]
        rfl
       refine pure_ (i := 30) (N := some 44) (v := undef) (a' := ?_) z31j2 rfl rfl (any_of HT_.out (by kernel_rfl)) (fun _ _ _ h => h) (Or.inr ⟨by rfl, rfl⟩) ?_ ?_
       rotate_left
       ·simp only [Act.put, pSj2, i64_w]
        rfl
       refine pure_ (i := 31) (N := some 45) (v := undef) (a' := ?_) z32j2 rfl rfl (any_of HT_.out (by kernel_rfl)) (fun _ _ _ h => h) (Or.inr ⟨by rfl, rfl⟩) ?_ ?_
       rotate_left
       ·simp only [Act.put, pSj2, i64_w]
        rfl
       refine pure_ (i := 32) (N := some 46) (v := undef) (a' := ?_) z33j2 rfl rfl (any_of HT_.out (by kernel_rfl)) (fun _ _ _ h => h) (Or.inr ⟨by rfl, rfl⟩) ?_ ?_
       rotate_left
       ·simp only [Act.put, pSj2, i64_w]
        rfl
       refine pure_ (i := 33) (N := some 47) (v := undef) (a' := ?_) z34j2 rfl rfl (any_of HT_.out (by kernel_rfl)) (fun _ _ _ h => h) (Or.inr ⟨by rfl, rfl⟩) ?_ ?_
       rotate_left
       ·simp only [Act.put, pSj2, i64_w]
        rfl
       refine pure_ (i := 34) (N := some 48) (v := undef) (a' := ?_) z35j2 rfl rfl (any_of HT_.out (by kernel_rfl)) (fun _ _ _ h => h) (Or.inr ⟨by rfl, rfl⟩) ?_ ?_
       rotate_left
       ·simp only [Act.put, pSj2, i64_w]
        rfl
       refine pure_ (i := 35) (N := some 49) (v := undef) (a' := ?_) z36j2 rfl rfl (any_of HT_.out (by kernel_rfl)) (fun _ _ _ h => h) (Or.inr ⟨by rfl, rfl⟩) ?_ ?_
       rotate_left
       ·simp only [Act.put, pSj2, i64_w]
        rfl
       refine pure_ (i := 36) (N := some 50) (v := ?_) (a' := ?_) z37j2 rfl rfl (any_of HT_.out (by kernel_rfl)) (fun _ _ _ h => h) (Or.inl ⟨by rfl, ?_⟩) ?_ ?_; rotate_left; (intro w'; go_simp; with_reducible rfl); rotate_left; (simp only [Act.put, pSj2, i64_w]; rfl)
       refine done_ (done_of HT_.out (by kernel_rfl)) ?_
       try go_wp2
       go_meet
       case rel => exact ⟨_, (true), (by first | rfl | (simp; done) | (simp [*]; done)), H', ⟨by first | omega | exact Nat.le_refl _⟩, ⟨by with_reducible apply_rules [B12.out, bA, bB, bC]⟩, ⟨by with_reducible apply_rules [B13.out, bA, bB, bC]⟩, ⟨by (with_reducible apply_rules [HB.out, pA, pD, pE, sT, GE112.out, GE113.out])⟩⟩
     ·replace c18 := Bool.eq_false_iff.mpr c18
      subst c18
      have H1 : (commodatumlaw12_UndoJoined.j0 k true a0_0 l0_1 a1_0 l1_1) = some r := by rw [if_neg (show ¬ (false = true) by decide)] at H; exact H
      clear H
      have H := H1
      clear H1
      have H' := aM H
      clear H
      try go_wp2
      replace B12 := aM (bB B12.out)
      replace B13 := aM (bB B13.out)
      replace HB := aM (pE HB.out)
      refine start_ (n := 37) (S := fun w' => w'.cell? ⟨gb112, 0, none⟩ = some (.int .i64 a0_0) ∧ w'.cell? ⟨gb112, 1, none⟩ = some (.slice A0_1 l0_1.length c0_1) ∧ w'.cell? ⟨gb113, 0, none⟩ = some (.int .i64 a1_0) ∧ w'.cell? ⟨gb113, 1, none⟩ = some (.slice A1_1 l1_1.length c1_1)) (ds := []) z0j2 (by kernel_rfl) rfl rfl ⟨(bE B12.out 0).trans rfl, (bE B12.out 1).trans rfl, (bE B13.out 0).trans rfl, (bE B13.out 1).trans rfl⟩ (fun hHeld => ?_); refine with_tabW commodatumlaw12_UndoJoined.tab1 commodatumlaw12_UndoJoined.bits1 (fun HT_ HW_ => ?_)
      generalize w5.drew = w41 at B12 B13 HB hHeld ⊢
      refine take_ (i := 0) (N := some 14) (v := ?_) (a' := ?_) z1j2 rfl rfl (take_ofW HT_.out HW_.out (by kernel_rfl)) (fun _ _ _ h => h) (Or.inl ⟨by rfl, ?_⟩) hHeld ?_ ?_; rotate_left; (rintro w' ⟨s0, s1, s2, s3⟩; go_simp; with_reducible rfl); rotate_left; (simp only [Act.put, pSj2, i64_w]; rfl)
      refine one_ (i := 1) (N := some 15) z2j2 rfl rfl (one_of HT_.out (by kernel_rfl)) (by decide) (fun K hK => ?_)
      refine goes_ Tryd.func17 (by kernel_rfl) rfl #[.agg #[.int .i64 a0_0, .slice A0_1 l0_1.length c0_1]] (by rfl) rfl rfl (by (try simp only [List.map_toArray, List.map_cons, List.map_nil]); first | done | rfl | (simp only [List.length_drop, List.length_take]; rfl)) ?_
      with_reducible refine (commodatumlaw12_Wide.calls a0_0 _ _ l0_1 false _ ?side1 ?side2 A6.out).mono ?_
      (case side1 => with_reducible apply_rules [(cD HR0_1.out HB.out), cA, cB, cC])
      (case side2 => exact HC0_1.out)
      rintro e w42 ⟨rfl, hb⟩
      refine ⟨_, rfl, ?_⟩
      replace B12 := aM (bD (g := gb112) (o := .cells #[.int .i64 a0_0, .slice A0_1 l0_1.length c0_1] 25 (0, 0)) (by with_reducible apply_rules [B12.out, bA, bB, bC]) hb)
      replace B13 := aM (bD (g := gb113) (o := .cells #[.int .i64 a1_0, .slice A1_1 l1_1.length c1_1] 25 (0, 0)) (by with_reducible apply_rules [B13.out, bA, bB, bC]) hb)
      replace HB := aM (pS_ (by (with_reducible apply_rules [HB.out, pA, pD, pE, sT, GE112.out, GE113.out])) hb)
      (try clear hb)
      (try clear hb2)
      (try clear hk)
      (try clear hi)
      refine hK.out _ _ ⟨(bE B12.out 0).trans rfl, (bE B12.out 1).trans rfl, (bE B13.out 0).trans rfl, (bE B13.out 1).trans rfl⟩ (fun hHeld => ?_)
      clear hK K
      refine norm_ (a' := ?_) ?_ ?_
      rotate_left
      ·show Act.put _ (some 15) _ = _
       simp only [Act.put, pSj2, i64_w]
       rfl
      refine pure_ (i := 2) (N := some 16) (v := ?_) (a' := ?_) z3j2 rfl rfl (any_of HT_.out (by kernel_rfl)) (fun _ _ _ h => h) (Or.inl ⟨by rfl, ?_⟩) ?_ ?_; rotate_left; (intro w'; go_simp; with_reducible rfl); rotate_left; (simp only [Act.put, pSj2, i64_w]; rfl)
      refine take_ (i := 3) (N := some 17) (v := ?_) (a' := ?_) z4j2 rfl rfl (take_ofW HT_.out HW_.out (by kernel_rfl)) (fun _ _ _ h => h) (Or.inl ⟨by rfl, ?_⟩) hHeld ?_ ?_; rotate_left; (rintro w' ⟨s0, s1, s2, s3⟩; go_simp; with_reducible rfl); rotate_left; (simp only [Act.put, pSj2, i64_w]; rfl)
      refine one_ (i := 4) (N := some 18) z5j2 rfl rfl (one_of HT_.out (by kernel_rfl)) (by decide) (fun K hK => ?_)
      refine goes_ Tryd.func17 (by kernel_rfl) rfl #[.agg #[.int .i64 a1_0, .slice A1_1 l1_1.length c1_1]] (by rfl) rfl rfl (by (try simp only [List.map_toArray, List.map_cons, List.map_nil]); first | done | rfl | (simp only [List.length_drop, List.length_take]; rfl)) ?_
      with_reducible refine (commodatumlaw12_Wide.calls a1_0 _ _ l1_1 false _ ?side1 ?side2 A10.out).mono ?_
      (case side1 => with_reducible apply_rules [(cD HR1_1.out HB.out), cA, cB, cC])
      (case side2 => exact HC1_1.out)
      rintro e w43 ⟨rfl, hb⟩
      refine ⟨_, rfl, ?_⟩
      replace B12 := aM (bD (g := gb112) (o := .cells #[.int .i64 a0_0, .slice A0_1 l0_1.length c0_1] 25 (0, 0)) (by with_reducible apply_rules [B12.out, bA, bB, bC]) hb)
      replace B13 := aM (bD (g := gb113) (o := .cells #[.int .i64 a1_0, .slice A1_1 l1_1.length c1_1] 25 (0, 0)) (by with_reducible apply_rules [B13.out, bA, bB, bC]) hb)
      replace HB := aM (pS_ (by (with_reducible apply_rules [HB.out, pA, pD, pE, sT, GE112.out, GE113.out])) hb)
      (try clear hb)
      (try clear hb2)
      (try clear hk)
      (try clear hi)
      refine hK.out _ _ ⟨(bE B12.out 0).trans rfl, (bE B12.out 1).trans rfl, (bE B13.out 0).trans rfl, (bE B13.out 1).trans rfl⟩ (fun hHeld => ?_)
      clear hK K
      refine norm_ (a' := ?_) ?_ ?_
      rotate_left
      ·show Act.put _ (some 18) _ = _
       simp only [Act.put, pSj2, i64_w]
       rfl
      refine pure_ (i := 5) (N := some 19) (v := ?_) (a' := ?_) z6j2 rfl rfl (any_of HT_.out (by kernel_rfl)) (fun _ _ _ h => h) (Or.inl ⟨by rfl, ?_⟩) ?_ ?_; rotate_left; (intro w'; go_simp; with_reducible rfl); rotate_left; (simp only [Act.put, pSj2, i64_w]; rfl)
      refine pure_ (i := 6) (N := some 20) (v := ?_) (a' := ?_) z7j2 rfl rfl (any_of HT_.out (by kernel_rfl)) (fun _ _ _ h => h) (Or.inl ⟨by rfl, ?_⟩) ?_ ?_; rotate_left; (intro w'; go_simp; with_reducible rfl); rotate_left; (simp only [Act.put, pSj2, i64_w]; rfl)
      refine take_ (i := 7) (N := some 21) (v := ?_) (a' := ?_) z8j2 rfl rfl (take_ofW HT_.out HW_.out (by kernel_rfl)) (fun _ _ _ h => h) (Or.inl ⟨by rfl, ?_⟩) hHeld ?_ ?_; rotate_left; (rintro w' ⟨s0, s1, s2, s3⟩; go_simp; with_reducible rfl); rotate_left; (simp only [Act.put, pSj2, i64_w]; rfl)
      refine one_ (i := 8) (N := some 22) z9j2 rfl rfl (one_of HT_.out (by kernel_rfl)) (by decide) (fun K hK => ?_)
      refine goes_ Tryd.func18 (by kernel_rfl) rfl #[.agg #[.int .i64 a0_0, .slice A0_1 l0_1.length c0_1]] (by rfl) rfl rfl (by (try simp only [List.map_toArray, List.map_cons, List.map_nil]); first | done | rfl | (simp only [List.length_drop, List.length_take]; rfl)) ?_
      with_reducible refine (commodatumref12_Valid.calls k a0_0 _ _ l0_1 true _ ?side1 ?side2 A15.out).mono ?_
      (case side1 => with_reducible apply_rules [(cD HR0_1.out HB.out), cA, cB, cC])
      (case side2 => exact HC0_1.out)
      rintro e w44 ⟨rfl, hb⟩
      refine ⟨_, rfl, ?_⟩
      replace B12 := aM (bD (g := gb112) (o := .cells #[.int .i64 a0_0, .slice A0_1 l0_1.length c0_1] 25 (0, 0)) (by with_reducible apply_rules [B12.out, bA, bB, bC]) hb)
      replace B13 := aM (bD (g := gb113) (o := .cells #[.int .i64 a1_0, .slice A1_1 l1_1.length c1_1] 25 (0, 0)) (by with_reducible apply_rules [B13.out, bA, bB, bC]) hb)
      replace HB := aM (pS_ (by (with_reducible apply_rules [HB.out, pA, pD, pE, sT, GE112.out, GE113.out])) hb)
      (try clear hb)
      (try clear hb2)
      (try clear hk)
      (try clear hi)
      refine hK.out _ _ ⟨(bE B12.out 0).trans rfl, (bE B12.out 1).trans rfl, (bE B13.out 0).trans rfl, (bE B13.out 1).trans rfl⟩ (fun hHeld => ?_)
      clear hK K
      refine norm_ (a' := ?_) ?_ ?_
      rotate_left
      ·show Act.put _ (some 22) _ = _
       simp only [Act.put, pSj2, i64_w]
       rfl
      refine pure_ (i := 9) (N := some 23) (v := ?_) (a' := ?_) z10j2 rfl rfl (any_of HT_.out (by kernel_rfl)) (fun _ _ _ h => h) (Or.inl ⟨by rfl, ?_⟩) ?_ ?_; rotate_left; (intro w'; go_simp; with_reducible rfl); rotate_left; (simp only [Act.put, pSj2, i64_w]; rfl)
      refine pure_ (i := 10) (N := some 24) (v := ?_) (a' := ?_) z11j2 rfl rfl (any_of HT_.out (by kernel_rfl)) (fun _ _ _ h => h) (Or.inl ⟨by rfl, ?_⟩) ?_ ?_; rotate_left; (intro w'; go_simp; with_reducible rfl); rotate_left; (simp only [Act.put, pSj2, i64_w]; rfl)
      refine pure_ (i := 11) (N := some 25) (v := ?_) (a' := ?_) z12j2 rfl rfl (any_of HT_.out (by kernel_rfl)) (fun _ _ _ h => h) (Or.inl ⟨by rfl, ?_⟩) ?_ ?_; rotate_left; (intro w'; go_simp; with_reducible rfl); rotate_left; (simp only [Act.put, pSj2, i64_w]; rfl)
      refine take_ (i := 12) (N := some 26) (v := ?_) (a' := ?_) z13j2 rfl rfl (take_ofW HT_.out HW_.out (by kernel_rfl)) (fun _ _ _ h => h) (Or.inl ⟨by rfl, ?_⟩) hHeld ?_ ?_; rotate_left; (rintro w' ⟨s0, s1, s2, s3⟩; go_simp; with_reducible rfl); rotate_left; (simp only [Act.put, pSj2, i64_w]; rfl)
      refine one_ (i := 13) (N := some 27) z14j2 rfl rfl (one_of HT_.out (by kernel_rfl)) (by decide) (fun K hK => ?_)
      refine goes_ Tryd.func18 (by kernel_rfl) rfl #[.agg #[.int .i64 a1_0, .slice A1_1 l1_1.length c1_1]] (by rfl) rfl rfl (by (try simp only [List.map_toArray, List.map_cons, List.map_nil]); first | done | rfl | (simp only [List.length_drop, List.length_take]; rfl)) ?_
      with_reducible refine (commodatumref12_Valid.calls k a1_0 _ _ l1_1 false _ ?side1 ?side2 A17.out).mono ?_
      (case side1 => with_reducible apply_rules [(cD HR1_1.out HB.out), cA, cB, cC])
      (case side2 => exact HC1_1.out)
      rintro e w45 ⟨rfl, hb⟩
      refine ⟨_, rfl, ?_⟩
      replace B12 := aM (bD (g := gb112) (o := .cells #[.int .i64 a0_0, .slice A0_1 l0_1.length c0_1] 25 (0, 0)) (by with_reducible apply_rules [B12.out, bA, bB, bC]) hb)
      replace B13 := aM (bD (g := gb113) (o := .cells #[.int .i64 a1_0, .slice A1_1 l1_1.length c1_1] 25 (0, 0)) (by with_reducible apply_rules [B13.out, bA, bB, bC]) hb)
      replace HB := aM (pS_ (by (with_reducible apply_rules [HB.out, pA, pD, pE, sT, GE112.out, GE113.out])) hb)
      (try clear hb)
      (try clear hb2)
      (try clear hk)
      (try clear hi)
      refine hK.out _ _ ⟨(bE B12.out 0).trans rfl, (bE B12.out 1).trans rfl, (bE B13.out 0).trans rfl, (bE B13.out 1).trans rfl⟩ (fun hHeld => ?_)
      clear hK K
      refine norm_ (a' := ?_) ?_ ?_
      rotate_left
      ·show Act.put _ (some 27) _ = _
       simp only [Act.put, pSj2, i64_w]
       rfl
      refine pure_ (i := 14) (N := some 28) (v := ?_) (a' := ?_) z15j2 rfl rfl (any_of HT_.out (by kernel_rfl)) (fun _ _ _ h => h) (Or.inl ⟨by rfl, ?_⟩) ?_ ?_; rotate_left; (intro w'; go_simp; with_reducible rfl); rotate_left; (simp only [Act.put, pSj2, i64_w]; rfl)
      refine pure_ (i := 15) (N := some 29) (v := ?_) (a' := ?_) z16j2 rfl rfl (any_of HT_.out (by kernel_rfl)) (fun _ _ _ h => h) (Or.inl ⟨by rfl, ?_⟩) ?_ ?_; rotate_left; (intro w'; go_simp; with_reducible rfl); rotate_left; (simp only [Act.put, pSj2, i64_w]; rfl)
      refine pure_ (i := 16) (N := some 30) (v := ?_) (a' := ?_) z17j2 rfl rfl (any_of HT_.out (by kernel_rfl)) (fun _ _ _ h => h) (Or.inl ⟨by rfl, ?_⟩) ?_ ?_; rotate_left; (intro w'; go_simp; with_reducible rfl); rotate_left; (simp only [Act.put, pSj2, i64_w]; rfl)
      refine pure_ (i := 17) (N := some 31) (v := undef) (a' := ?_) z18j2 rfl rfl (any_of HT_.out (by kernel_rfl)) (fun _ _ _ h => h) (Or.inr ⟨by rfl, rfl⟩) ?_ ?_
      rotate_left
      ·simp only [Act.put, pSj2, i64_w]
       rfl
      refine pure_ (i := 18) (N := some 32) (v := undef) (a' := ?_) z19j2 rfl rfl (any_of HT_.out (by kernel_rfl)) (fun _ _ _ h => h) (Or.inr ⟨by rfl, rfl⟩) ?_ ?_
      rotate_left
      ·simp only [Act.put, pSj2, i64_w]
       rfl
      refine pure_ (i := 19) (N := some 33) (v := undef) (a' := ?_) z20j2 rfl rfl (any_of HT_.out (by kernel_rfl)) (fun _ _ _ h => h) (Or.inr ⟨by rfl, rfl⟩) ?_ ?_
      rotate_left
      ·simp only [Act.put, pSj2, i64_w]
       rfl
      refine pure_ (i := 20) (N := some 34) (v := undef) (a' := ?_) z21j2 rfl rfl (any_of HT_.out (by kernel_rfl)) (fun _ _ _ h => h) (Or.inr ⟨by rfl, rfl⟩) ?_ ?_
      rotate_left
      ·simp only [Act.put, pSj2, i64_w]
       rfl
      refine pure_ (i := 21) (N := some 35) (v := undef) (a' := ?_) z22j2 rfl rfl (any_of HT_.out (by kernel_rfl)) (fun _ _ _ h => h) (Or.inr ⟨by rfl, rfl⟩) ?_ ?_
      rotate_left
      ·simp only [Act.put, pSj2, i64_w]
       rfl
      refine pure_ (i := 22) (N := some 36) (v := ?_) (a' := ?_) z23j2 rfl rfl (any_of HT_.out (by kernel_rfl)) (fun _ _ _ h => h) (Or.inl ⟨by rfl, ?_⟩) ?_ ?_; rotate_left; (intro w'; go_simp; with_reducible rfl); rotate_left; (simp only [Act.put, pSj2, i64_w]; rfl)
      refine pure_ (i := 23) (N := some 37) (v := ?_) (a' := ?_) z24j2 rfl rfl (any_of HT_.out (by kernel_rfl)) (fun _ _ _ h => h) (Or.inl ⟨by rfl, ?_⟩) ?_ ?_; rotate_left; (intro w'; go_simp; with_reducible rfl); rotate_left; (simp only [Act.put, pSj2, i64_w]; rfl)
      refine pure_ (i := 24) (N := some 38) (v := undef) (a' := ?_) z25j2 rfl rfl (any_of HT_.out (by kernel_rfl)) (fun _ _ _ h => h) (Or.inr ⟨by rfl, rfl⟩) ?_ ?_
      rotate_left
      ·simp only [Act.put, pSj2, i64_w]
       rfl
      refine pure_ (i := 25) (N := some 39) (v := undef) (a' := ?_) z26j2 rfl rfl (any_of HT_.out (by kernel_rfl)) (fun _ _ _ h => h) (Or.inr ⟨by rfl, rfl⟩) ?_ ?_
      rotate_left
      ·simp only [Act.put, pSj2, i64_w]
       rfl
      refine pure_ (i := 26) (N := some 40) (v := undef) (a' := ?_) z27j2 rfl rfl (any_of HT_.out (by kernel_rfl)) (fun _ _ _ h => h) (Or.inr ⟨by rfl, rfl⟩) ?_ ?_
      rotate_left
      ·simp only [Act.put, pSj2, i64_w]
       rfl
      refine pure_ (i := 27) (N := some 41) (v := ?_) (a' := ?_) z28j2 rfl rfl (any_of HT_.out (by kernel_rfl)) (fun _ _ _ h => h) (Or.inl ⟨by rfl, ?_⟩) ?_ ?_; rotate_left; (intro w'; go_simp; with_reducible rfl); rotate_left; (simp only [Act.put, pSj2, i64_w]; rfl)
      refine pure_ (i := 28) (N := some 42) (v := ?_) (a' := ?_) z29j2 rfl rfl (any_of HT_.out (by kernel_rfl)) (fun _ _ _ h => h) (Or.inl ⟨by rfl, ?_⟩) ?_ ?_; rotate_left; (intro w'; go_simp; with_reducible rfl); rotate_left; (simp only [Act.put, pSj2, i64_w]; rfl)
      refine pure_ (i := 29) (N := some 43) (v := undef) (a' := ?_) z30j2 rfl rfl (any_of HT_.out (by kernel_rfl)) (fun _ _ _ h => h) (Or.inr ⟨by rfl, rfl⟩) ?_ ?_
      rotate_left
      ·simp only [Act.put, pSj2, i64_w]
       rfl
      refine pure_ (i := 30) (N := some 44) (v := undef) (a' := ?_) z31j2 rfl rfl (any_of HT_.out (by kernel_rfl)) (fun _ _ _ h => h) (Or.inr ⟨by rfl, rfl⟩) ?_ ?_
      rotate_left
      ·simp only [Act.put, pSj2, i64_w]
       rfl
      refine pure_ (i := 31) (N := some 45) (v := undef) (a' := ?_) z32j2 rfl rfl (any_of HT_.out (by kernel_rfl)) (fun _ _ _ h => h) (Or.inr ⟨by rfl, rfl⟩) ?_ ?_
      rotate_left
      ·simp only [Act.put, pSj2, i64_w]
       rfl
      refine pure_ (i := 32) (N := some 46) (v := undef) (a' := ?_) z33j2 rfl rfl (any_of HT_.out (by kernel_rfl)) (fun _ _ _ h => h) (Or.inr ⟨by rfl, rfl⟩) ?_ ?_
      rotate_left
      ·simp only [Act.put, pSj2, i64_w]
       rfl
      refine pure_ (i := 33) (N := some 47) (v := undef) (a' := ?_) z34j2 rfl rfl (any_of HT_.out (by kernel_rfl)) (fun _ _ _ h => h) (Or.inr ⟨by rfl, rfl⟩) ?_ ?_
      rotate_left
      ·simp only [Act.put, pSj2, i64_w]
       rfl
      refine pure_ (i := 34) (N := some 48) (v := undef) (a' := ?_) z35j2 rfl rfl (any_of HT_.out (by kernel_rfl)) (fun _ _ _ h => h) (Or.inr ⟨by rfl, rfl⟩) ?_ ?_
      rotate_left
      ·simp only [Act.put, pSj2, i64_w]
       rfl
      refine pure_ (i := 35) (N := some 49) (v := undef) (a' := ?_) z36j2 rfl rfl (any_of HT_.out (by kernel_rfl)) (fun _ _ _ h => h) (Or.inr ⟨by rfl, rfl⟩) ?_ ?_
      rotate_left
      ·simp only [Act.put, pSj2, i64_w]
       rfl
      refine pure_ (i := 36) (N := some 50) (v := ?_) (a' := ?_) z37j2 rfl rfl (any_of HT_.out (by kernel_rfl)) (fun _ _ _ h => h) (Or.inl ⟨by rfl, ?_⟩) ?_ ?_; rotate_left; (intro w'; go_simp; with_reducible rfl); rotate_left; (simp only [Act.put, pSj2, i64_w]; rfl)
      refine done_ (done_of HT_.out (by kernel_rfl)) ?_
      try go_wp2
      go_meet
      case rel => exact ⟨_, (true), (by first | rfl | (simp; done) | (simp [*]; done)), H', ⟨by first | omega | exact Nat.le_refl _⟩, ⟨by with_reducible apply_rules [B12.out, bA, bB, bC]⟩, ⟨by with_reducible apply_rules [B13.out, bA, bB, bC]⟩, ⟨by (with_reducible apply_rules [HB.out, pA, pD, pE, sT, GE112.out, GE113.out])⟩⟩
    ·replace c16 := Bool.eq_false_iff.mpr c16
     subst c16
     have H1 : (commodatumlaw12_UndoJoined.j0 k true a0_0 l0_1 a1_0 l1_1) = some r := by rw [if_neg (show ¬ (false = true) by decide)] at H; exact H
     clear H
     have H := H1
     clear H1
     have H' := aM H
     clear H
     try go_wp2
     replace B12 := aM (bB B12.out)
     replace B13 := aM (bB B13.out)
     replace HB := aM (pE HB.out)
     refine start_ (n := 37) (S := fun w' => w'.cell? ⟨gb112, 0, none⟩ = some (.int .i64 a0_0) ∧ w'.cell? ⟨gb112, 1, none⟩ = some (.slice A0_1 l0_1.length c0_1) ∧ w'.cell? ⟨gb113, 0, none⟩ = some (.int .i64 a1_0) ∧ w'.cell? ⟨gb113, 1, none⟩ = some (.slice A1_1 l1_1.length c1_1)) (ds := []) z0j2 (by kernel_rfl) rfl rfl ⟨(bE B12.out 0).trans rfl, (bE B12.out 1).trans rfl, (bE B13.out 0).trans rfl, (bE B13.out 1).trans rfl⟩ (fun hHeld => ?_); refine with_tabW commodatumlaw12_UndoJoined.tab1 commodatumlaw12_UndoJoined.bits1 (fun HT_ HW_ => ?_)
     generalize w5.drew = w46 at B12 B13 HB hHeld ⊢
     refine take_ (i := 0) (N := some 14) (v := ?_) (a' := ?_) z1j2 rfl rfl (take_ofW HT_.out HW_.out (by kernel_rfl)) (fun _ _ _ h => h) (Or.inl ⟨by rfl, ?_⟩) hHeld ?_ ?_; rotate_left; (rintro w' ⟨s0, s1, s2, s3⟩; go_simp; with_reducible rfl); rotate_left; (simp only [Act.put, pSj2, i64_w]; rfl)
     refine one_ (i := 1) (N := some 15) z2j2 rfl rfl (one_of HT_.out (by kernel_rfl)) (by decide) (fun K hK => ?_)
     refine goes_ Tryd.func17 (by kernel_rfl) rfl #[.agg #[.int .i64 a0_0, .slice A0_1 l0_1.length c0_1]] (by rfl) rfl rfl (by (try simp only [List.map_toArray, List.map_cons, List.map_nil]); first | done | rfl | (simp only [List.length_drop, List.length_take]; rfl)) ?_
     with_reducible refine (commodatumlaw12_Wide.calls a0_0 _ _ l0_1 false _ ?side1 ?side2 A6.out).mono ?_
     (case side1 => with_reducible apply_rules [(cD HR0_1.out HB.out), cA, cB, cC])
     (case side2 => exact HC0_1.out)
     rintro e w47 ⟨rfl, hb⟩
     refine ⟨_, rfl, ?_⟩
     replace B12 := aM (bD (g := gb112) (o := .cells #[.int .i64 a0_0, .slice A0_1 l0_1.length c0_1] 25 (0, 0)) (by with_reducible apply_rules [B12.out, bA, bB, bC]) hb)
     replace B13 := aM (bD (g := gb113) (o := .cells #[.int .i64 a1_0, .slice A1_1 l1_1.length c1_1] 25 (0, 0)) (by with_reducible apply_rules [B13.out, bA, bB, bC]) hb)
     replace HB := aM (pS_ (by (with_reducible apply_rules [HB.out, pA, pD, pE, sT, GE112.out, GE113.out])) hb)
     (try clear hb)
     (try clear hb2)
     (try clear hk)
     (try clear hi)
     refine hK.out _ _ ⟨(bE B12.out 0).trans rfl, (bE B12.out 1).trans rfl, (bE B13.out 0).trans rfl, (bE B13.out 1).trans rfl⟩ (fun hHeld => ?_)
     clear hK K
     refine norm_ (a' := ?_) ?_ ?_
     rotate_left
     ·show Act.put _ (some 15) _ = _
      simp only [Act.put, pSj2, i64_w]
      rfl
     refine pure_ (i := 2) (N := some 16) (v := ?_) (a' := ?_) z3j2 rfl rfl (any_of HT_.out (by kernel_rfl)) (fun _ _ _ h => h) (Or.inl ⟨by rfl, ?_⟩) ?_ ?_; rotate_left; (intro w'; go_simp; with_reducible rfl); rotate_left; (simp only [Act.put, pSj2, i64_w]; rfl)
     refine take_ (i := 3) (N := some 17) (v := ?_) (a' := ?_) z4j2 rfl rfl (take_ofW HT_.out HW_.out (by kernel_rfl)) (fun _ _ _ h => h) (Or.inl ⟨by rfl, ?_⟩) hHeld ?_ ?_; rotate_left; (rintro w' ⟨s0, s1, s2, s3⟩; go_simp; with_reducible rfl); rotate_left; (simp only [Act.put, pSj2, i64_w]; rfl)
     refine one_ (i := 4) (N := some 18) z5j2 rfl rfl (one_of HT_.out (by kernel_rfl)) (by decide) (fun K hK => ?_)
     refine goes_ Tryd.func17 (by kernel_rfl) rfl #[.agg #[.int .i64 a1_0, .slice A1_1 l1_1.length c1_1]] (by rfl) rfl rfl (by (try simp only [List.map_toArray, List.map_cons, List.map_nil]); first | done | rfl | (simp only [List.length_drop, List.length_take]; rfl)) ?_
     with_reducible refine (commodatumlaw12_Wide.calls a1_0 _ _ l1_1 false _ ?side1 ?side2 A10.out).mono ?_
     (case side1 => with_reducible apply_rules [(cD HR1_1.out HB.out), cA, cB, cC])
     (case side2 => exact HC1_1.out)
     rintro e w48 ⟨rfl, hb⟩
     refine ⟨_, rfl, ?_⟩
     replace B12 := aM (bD (g := gb112) (o := .cells #[.int .i64 a0_0, .slice A0_1 l0_1.length c0_1] 25 (0, 0)) (by with_reducible apply_rules [B12.out, bA, bB, bC]) hb)
     replace B13 := aM (bD (g := gb113) (o := .cells #[.int .i64 a1_0, .slice A1_1 l1_1.length c1_1] 25 (0, 0)) (by with_reducible apply_rules [B13.out, bA, bB, bC]) hb)
     replace HB := aM (pS_ (by (with_reducible apply_rules [HB.out, pA, pD, pE, sT, GE112.out, GE113.out])) hb)
     (try clear hb)
     (try clear hb2)
     (try clear hk)
     (try clear hi)
     refine hK.out _ _ ⟨(bE B12.out 0).trans rfl, (bE B12.out 1).trans rfl, (bE B13.out 0).trans rfl, (bE B13.out 1).trans rfl⟩ (fun hHeld => ?_)
     clear hK K
     refine norm_ (a' := ?_) ?_ ?_
     rotate_left
     ·show Act.put _ (some 18) _ = _
      simp only [Act.put, pSj2, i64_w]
      rfl
     refine pure_ (i := 5) (N := some 19) (v := ?_) (a' := ?_) z6j2 rfl rfl (any_of HT_.out (by kernel_rfl)) (fun _ _ _ h => h) (Or.inl ⟨by rfl, ?_⟩) ?_ ?_; rotate_left; (intro w'; go_simp; with_reducible rfl); rotate_left; (simp only [Act.put, pSj2, i64_w]; rfl)
     refine pure_ (i := 6) (N := some 20) (v := ?_) (a' := ?_) z7j2 rfl rfl (any_of HT_.out (by kernel_rfl)) (fun _ _ _ h => h) (Or.inl ⟨by rfl, ?_⟩) ?_ ?_; rotate_left; (intro w'; go_simp; with_reducible rfl); rotate_left; (simp only [Act.put, pSj2, i64_w]; rfl)
     refine take_ (i := 7) (N := some 21) (v := ?_) (a' := ?_) z8j2 rfl rfl (take_ofW HT_.out HW_.out (by kernel_rfl)) (fun _ _ _ h => h) (Or.inl ⟨by rfl, ?_⟩) hHeld ?_ ?_; rotate_left; (rintro w' ⟨s0, s1, s2, s3⟩; go_simp; with_reducible rfl); rotate_left; (simp only [Act.put, pSj2, i64_w]; rfl)
     refine one_ (i := 8) (N := some 22) z9j2 rfl rfl (one_of HT_.out (by kernel_rfl)) (by decide) (fun K hK => ?_)
     refine goes_ Tryd.func18 (by kernel_rfl) rfl #[.agg #[.int .i64 a0_0, .slice A0_1 l0_1.length c0_1]] (by rfl) rfl rfl (by (try simp only [List.map_toArray, List.map_cons, List.map_nil]); first | done | rfl | (simp only [List.length_drop, List.length_take]; rfl)) ?_
     with_reducible refine (commodatumref12_Valid.calls k a0_0 _ _ l0_1 false _ ?side1 ?side2 A15.out).mono ?_
     (case side1 => with_reducible apply_rules [(cD HR0_1.out HB.out), cA, cB, cC])
     (case side2 => exact HC0_1.out)
     rintro e w49 ⟨rfl, hb⟩
     refine ⟨_, rfl, ?_⟩
     replace B12 := aM (bD (g := gb112) (o := .cells #[.int .i64 a0_0, .slice A0_1 l0_1.length c0_1] 25 (0, 0)) (by with_reducible apply_rules [B12.out, bA, bB, bC]) hb)
     replace B13 := aM (bD (g := gb113) (o := .cells #[.int .i64 a1_0, .slice A1_1 l1_1.length c1_1] 25 (0, 0)) (by with_reducible apply_rules [B13.out, bA, bB, bC]) hb)
     replace HB := aM (pS_ (by (with_reducible apply_rules [HB.out, pA, pD, pE, sT, GE112.out, GE113.out])) hb)
     (try clear hb)
     (try clear hb2)
     (try clear hk)
     (try clear hi)
     refine hK.out _ _ ⟨(bE B12.out 0).trans rfl, (bE B12.out 1).trans rfl, (bE B13.out 0).trans rfl, (bE B13.out 1).trans rfl⟩ (fun hHeld => ?_)
     clear hK K
     refine norm_ (a' := ?_) ?_ ?_
     rotate_left
     ·show Act.put _ (some 22) _ = _
      simp only [Act.put, pSj2, i64_w]
      rfl
     refine pure_ (i := 9) (N := some 23) (v := ?_) (a' := ?_) z10j2 rfl rfl (any_of HT_.out (by kernel_rfl)) (fun _ _ _ h => h) (Or.inl ⟨by rfl, ?_⟩) ?_ ?_; rotate_left; (intro w'; go_simp; with_reducible rfl); rotate_left; (simp only [Act.put, pSj2, i64_w]; rfl)
     refine pure_ (i := 10) (N := some 24) (v := ?_) (a' := ?_) z11j2 rfl rfl (any_of HT_.out (by kernel_rfl)) (fun _ _ _ h => h) (Or.inl ⟨by rfl, ?_⟩) ?_ ?_; rotate_left; (intro w'; go_simp; with_reducible rfl); rotate_left; (simp only [Act.put, pSj2, i64_w]; rfl)
     refine pure_ (i := 11) (N := some 25) (v := ?_) (a' := ?_) z12j2 rfl rfl (any_of HT_.out (by kernel_rfl)) (fun _ _ _ h => h) (Or.inl ⟨by rfl, ?_⟩) ?_ ?_; rotate_left; (intro w'; go_simp; with_reducible rfl); rotate_left; (simp only [Act.put, pSj2, i64_w]; rfl)
     refine pure_ (i := 12) (N := some 26) (v := undef) (a' := ?_) z13j2 rfl rfl (any_of HT_.out (by kernel_rfl)) (fun _ _ _ h => h) (Or.inr ⟨by rfl, rfl⟩) ?_ ?_
     rotate_left
     ·simp only [Act.put, pSj2, i64_w]
      rfl
     refine pure_ (i := 13) (N := some 27) (v := undef) (a' := ?_) z14j2 rfl rfl (any_of HT_.out (by kernel_rfl)) (fun _ _ _ h => h) (Or.inr ⟨by rfl, rfl⟩) ?_ ?_
     rotate_left
     ·simp only [Act.put, pSj2, i64_w]
      rfl
     refine pure_ (i := 14) (N := some 28) (v := undef) (a' := ?_) z15j2 rfl rfl (any_of HT_.out (by kernel_rfl)) (fun _ _ _ h => h) (Or.inr ⟨by rfl, rfl⟩) ?_ ?_
     rotate_left
     ·simp only [Act.put, pSj2, i64_w]
      rfl
     refine pure_ (i := 15) (N := some 29) (v := ?_) (a' := ?_) z16j2 rfl rfl (any_of HT_.out (by kernel_rfl)) (fun _ _ _ h => h) (Or.inl ⟨by rfl, ?_⟩) ?_ ?_; rotate_left; (intro w'; go_simp; with_reducible rfl); rotate_left; (simp only [Act.put, pSj2, i64_w]; rfl)
     refine pure_ (i := 16) (N := some 30) (v := ?_) (a' := ?_) z17j2 rfl rfl (any_of HT_.out (by kernel_rfl)) (fun _ _ _ h => h) (Or.inl ⟨by rfl, ?_⟩) ?_ ?_; rotate_left; (intro w'; go_simp; with_reducible rfl); rotate_left; (simp only [Act.put, pSj2, i64_w]; rfl)
     refine pure_ (i := 17) (N := some 31) (v := undef) (a' := ?_) z18j2 rfl rfl (any_of HT_.out (by kernel_rfl)) (fun _ _ _ h => h) (Or.inr ⟨by rfl, rfl⟩) ?_ ?_
     rotate_left
     ·simp only [Act.put, pSj2, i64_w]
      rfl
     refine pure_ (i := 18) (N := some 32) (v := undef) (a' := ?_) z19j2 rfl rfl (any_of HT_.out (by kernel_rfl)) (fun _ _ _ h => h) (Or.inr ⟨by rfl, rfl⟩) ?_ ?_
     rotate_left
     ·simp only [Act.put, pSj2, i64_w]
      rfl
     refine pure_ (i := 19) (N := some 33) (v := undef) (a' := ?_) z20j2 rfl rfl (any_of HT_.out (by kernel_rfl)) (fun _ _ _ h => h) (Or.inr ⟨by rfl, rfl⟩) ?_ ?_
     rotate_left
     ·simp only [Act.put, pSj2, i64_w]
      rfl
     refine pure_ (i := 20) (N := some 34) (v := undef) (a' := ?_) z21j2 rfl rfl (any_of HT_.out (by kernel_rfl)) (fun _ _ _ h => h) (Or.inr ⟨by rfl, rfl⟩) ?_ ?_
     rotate_left
     ·simp only [Act.put, pSj2, i64_w]
      rfl
     refine pure_ (i := 21) (N := some 35) (v := undef) (a' := ?_) z22j2 rfl rfl (any_of HT_.out (by kernel_rfl)) (fun _ _ _ h => h) (Or.inr ⟨by rfl, rfl⟩) ?_ ?_
     rotate_left
     ·simp only [Act.put, pSj2, i64_w]
      rfl
     refine pure_ (i := 22) (N := some 36) (v := ?_) (a' := ?_) z23j2 rfl rfl (any_of HT_.out (by kernel_rfl)) (fun _ _ _ h => h) (Or.inl ⟨by rfl, ?_⟩) ?_ ?_; rotate_left; (intro w'; go_simp; with_reducible rfl); rotate_left; (simp only [Act.put, pSj2, i64_w]; rfl)
     refine pure_ (i := 23) (N := some 37) (v := ?_) (a' := ?_) z24j2 rfl rfl (any_of HT_.out (by kernel_rfl)) (fun _ _ _ h => h) (Or.inl ⟨by rfl, ?_⟩) ?_ ?_; rotate_left; (intro w'; go_simp; with_reducible rfl); rotate_left; (simp only [Act.put, pSj2, i64_w]; rfl)
     refine pure_ (i := 24) (N := some 38) (v := undef) (a' := ?_) z25j2 rfl rfl (any_of HT_.out (by kernel_rfl)) (fun _ _ _ h => h) (Or.inr ⟨by rfl, rfl⟩) ?_ ?_
     rotate_left
     ·simp only [Act.put, pSj2, i64_w]
      rfl
     refine pure_ (i := 25) (N := some 39) (v := undef) (a' := ?_) z26j2 rfl rfl (any_of HT_.out (by kernel_rfl)) (fun _ _ _ h => h) (Or.inr ⟨by rfl, rfl⟩) ?_ ?_
     rotate_left
     ·simp only [Act.put, pSj2, i64_w]
      rfl
     refine pure_ (i := 26) (N := some 40) (v := undef) (a' := ?_) z27j2 rfl rfl (any_of HT_.out (by kernel_rfl)) (fun _ _ _ h => h) (Or.inr ⟨by rfl, rfl⟩) ?_ ?_
     rotate_left
     ·simp only [Act.put, pSj2, i64_w]
      rfl
     refine pure_ (i := 27) (N := some 41) (v := ?_) (a' := ?_) z28j2 rfl rfl (any_of HT_.out (by kernel_rfl)) (fun _ _ _ h => h) (Or.inl ⟨by rfl, ?_⟩) ?_ ?_; rotate_left; (intro w'; go_simp; with_reducible rfl); rotate_left; (simp only [Act.put, pSj2, i64_w]; rfl)
     refine pure_ (i := 28) (N := some 42) (v := ?_) (a' := ?_) z29j2 rfl rfl (any_of HT_.out (by kernel_rfl)) (fun _ _ _ h => h) (Or.inl ⟨by rfl, ?_⟩) ?_ ?_; rotate_left; (intro w'; go_simp; with_reducible rfl); rotate_left; (simp only [Act.put, pSj2, i64_w]; rfl)
     refine pure_ (i := 29) (N := some 43) (v := undef) (a' := ?_) z30j2 rfl rfl (any_of HT_.out (by kernel_rfl)) (fun _ _ _ h => h) (Or.inr ⟨by rfl, rfl⟩) ?_ ?_
     rotate_left
     ·simp only [Act.put, pSj2, i64_w]
      rfl
     refine pure_ (i := 30) (N := some 44) (v := undef) (a' := ?_) z31j2 rfl rfl (any_of HT_.out (by kernel_rfl)) (fun _ _ _ h => h) (Or.inr ⟨by rfl, rfl⟩) ?_ ?_
     rotate_left
     ·simp only [Act.put, pSj2, i64_w]
      rfl
     refine pure_ (i := 31) (N := some 45) (v := undef) (a' := ?_) z32j2 rfl rfl (any_of HT_.out (by kernel_rfl)) (fun _ _ _ h => h) (Or.inr ⟨by rfl, rfl⟩) ?_ ?_
     rotate_left
     ·simp only [Act.put, pSj2, i64_w]
      rfl
     refine pure_ (i := 32) (N := some 46) (v := undef) (a' := ?_) z33j2 rfl rfl (any_of HT_.out (by kernel_rfl)) (fun _ _ _ h => h) (Or.inr ⟨by rfl, rfl⟩) ?_ ?_
     rotate_left
     ·simp only [Act.put, pSj2, i64_w]
      rfl
     refine pure_ (i := 33) (N := some 47) (v := undef) (a' := ?_) z34j2 rfl rfl (any_of HT_.out (by kernel_rfl)) (fun _ _ _ h => h) (Or.inr ⟨by rfl, rfl⟩) ?_ ?_
     rotate_left
     ·simp only [Act.put, pSj2, i64_w]
      rfl
     refine pure_ (i := 34) (N := some 48) (v := undef) (a' := ?_) z35j2 rfl rfl (any_of HT_.out (by kernel_rfl)) (fun _ _ _ h => h) (Or.inr ⟨by rfl, rfl⟩) ?_ ?_
     rotate_left
     ·simp only [Act.put, pSj2, i64_w]
      rfl
     refine pure_ (i := 35) (N := some 49) (v := undef) (a' := ?_) z36j2 rfl rfl (any_of HT_.out (by kernel_rfl)) (fun _ _ _ h => h) (Or.inr ⟨by rfl, rfl⟩) ?_ ?_
     rotate_left
     ·simp only [Act.put, pSj2, i64_w]
      rfl
     refine pure_ (i := 36) (N := some 50) (v := ?_) (a' := ?_) z37j2 rfl rfl (any_of HT_.out (by kernel_rfl)) (fun _ _ _ h => h) (Or.inl ⟨by rfl, ?_⟩) ?_ ?_; rotate_left; (intro w'; go_simp; with_reducible rfl); rotate_left; (simp only [Act.put, pSj2, i64_w]; rfl)
     refine done_ (done_of HT_.out (by kernel_rfl)) ?_
     try go_wp2
     go_meet
     case rel => exact ⟨_, (true), (by first | rfl | (simp; done) | (simp [*]; done)), H', ⟨by first | omega | exact Nat.le_refl _⟩, ⟨by with_reducible apply_rules [B12.out, bA, bB, bC]⟩, ⟨by with_reducible apply_rules [B13.out, bA, bB, bC]⟩, ⟨by (with_reducible apply_rules [HB.out, pA, pD, pE, sT, GE112.out, GE113.out])⟩⟩
 case rest =>
  clear HC3
  try clear c1
  try clear p2
  try clear c16
  try clear c17
  try clear c18
  obtain ⟨kq, x50_2, rfl, HA, HJ2, B12, B13, HB⟩ := hcut
  cases kq with
  | zero => exact absurd HA.out (by simp [commodatumlaw12_UndoJoined.j0])
  | succ kj2 =>
   have H := HA.out
   clear HA
   simp only [commodatumlaw12_UndoJoined.j0] at H
   by_cases c50 : x50_2 = true
   ·subst c50
    have H1 : ((commodatumlaw12_Awake.f kj2).bind fun t123 => (some t123)) = some r := by rw [if_pos rfl] at H; exact H
    clear H
    have H := H1
    clear H1
    replace H := Option.bind_eq_some_iff.mp H
    obtain ⟨t123, A510, H⟩ := H
    replace H : (some t123) = some r := H
    have A51 := aM A510
    clear A510
    obtain rfl := Option.some.inj H
    go_wp2_with (first | ((with_reducible refine gate_callee (f := 12) rfl ?_); refine goesL_ (some 51) rfl rfl Tryd.func12 (by kernel_rfl) rfl #[] rfl (by (try simp only [List.map_toArray, List.map_cons, List.map_nil]); first | done | rfl | (simp only [List.length_drop, List.length_take]; rfl)) ?_; (with_reducible refine (commodatumlaw12_Awake.calls kj2  t123 _ ?side1 A51.out).mono ?_); (case side1 => exact Laid.below HLAY.out (by (with_reducible apply_rules [HB.out, pA, pD, pE, sT, GE112.out, GE113.out]))); rintro e w52 ⟨rfl, hb⟩; refine ⟨_, rfl, ?_⟩; replace B12 := aM (bD (g := gb112) (o := .cells #[.int .i64 a0_0, .slice A0_1 l0_1.length c0_1] 25 (0, 0)) (by with_reducible apply_rules [B12.out, bA, bB, bC]) hb); replace B13 := aM (bD (g := gb113) (o := .cells #[.int .i64 a1_0, .slice A1_1 l1_1.length c1_1] 25 (0, 0)) (by with_reducible apply_rules [B13.out, bA, bB, bC]) hb); replace HB := aM (pS_ (by (with_reducible apply_rules [HB.out, pA, pD, pE, sT, GE112.out, GE113.out])) hb); (try clear hb); (try clear hb2); (try clear hk); (try clear hi)))
    go_ret
    exact ⟨by first | rfl | (simp [errW_none, errW_some] <;> rfl) | (simp [*, errW_none, errW_some] <;> rfl), by (with_reducible apply_rules [HB.out, pA, pD, pE, sT, GE112.out, GE113.out])⟩
   ·replace c50 := Bool.eq_false_iff.mpr c50
    subst c50
    have H1 : ((commodatumlaw12_Copy.f a0_0 l0_1).bind fun bt124 => ((commodatumlaw12_Copy.f a1_0 l1_1).bind fun bt128 => ((undo_Join.f kj2 bt124.1 bt124.2 bt128.1 bt128.2).bind fun bt132 => ((commodatumlaw12_Copy.f a0_0 l0_1).bind fun bt138 => ((undo_Permutation.f kj2 bt138.1 bt138.2).bind fun bt142 => ((commodatumlaw12_Copy.f a1_0 l1_1).bind fun bt146 => ((undo_Permutation.f kj2 bt146.1 bt146.2).bind fun bt150 => ((undo_Permutation.f kj2 bt132.1 bt132.2.1).bind fun bt154 => (if bt132.2.2 = 0 then (if bt142.2 = 0 then (if bt150.2 = 0 then (if bt154.2 = 0 then (if 0 ≤ a0_0 then (if (bt142.1.length : Int) = (shl .i64 1 a0_0) then (if (bt150.1.length : Int) = (bt142.1.length : Int) then (commodatumlaw12_UndoJoined.j1 kj2 bt142.1 bt150.1 bt154.1 ((bt154.1.length : Int) != (bt142.1.length : Int))) else (commodatumlaw12_UndoJoined.j1 kj2 bt142.1 bt150.1 bt154.1 true)) else (commodatumlaw12_UndoJoined.j1 kj2 bt142.1 bt150.1 bt154.1 true)) else (none)) else (commodatumlaw12_UndoJoined.j1 kj2 bt142.1 bt150.1 bt154.1 true)) else (commodatumlaw12_UndoJoined.j1 kj2 bt142.1 bt150.1 bt154.1 true)) else (commodatumlaw12_UndoJoined.j1 kj2 bt142.1 bt150.1 bt154.1 true)) else (commodatumlaw12_UndoJoined.j1 kj2 bt142.1 bt150.1 bt154.1 true)))))))))) = some r := by rw [if_neg (show ¬ (false = true) by decide)] at H; exact H
    clear H
    have H := H1
    clear H1
    replace H := Option.bind_eq_some_iff.mp H
    obtain ⟨⟨t124, t125⟩, A530, H⟩ := H
    replace H : ((commodatumlaw12_Copy.f a1_0 l1_1).bind fun bt128 => ((undo_Join.f kj2 t124 t125 bt128.1 bt128.2).bind fun bt132 => ((commodatumlaw12_Copy.f a0_0 l0_1).bind fun bt138 => ((undo_Permutation.f kj2 bt138.1 bt138.2).bind fun bt142 => ((commodatumlaw12_Copy.f a1_0 l1_1).bind fun bt146 => ((undo_Permutation.f kj2 bt146.1 bt146.2).bind fun bt150 => ((undo_Permutation.f kj2 bt132.1 bt132.2.1).bind fun bt154 => (if bt132.2.2 = 0 then (if bt142.2 = 0 then (if bt150.2 = 0 then (if bt154.2 = 0 then (if 0 ≤ a0_0 then (if (bt142.1.length : Int) = (shl .i64 1 a0_0) then (if (bt150.1.length : Int) = (bt142.1.length : Int) then (commodatumlaw12_UndoJoined.j1 kj2 bt142.1 bt150.1 bt154.1 ((bt154.1.length : Int) != (bt142.1.length : Int))) else (commodatumlaw12_UndoJoined.j1 kj2 bt142.1 bt150.1 bt154.1 true)) else (commodatumlaw12_UndoJoined.j1 kj2 bt142.1 bt150.1 bt154.1 true)) else (none)) else (commodatumlaw12_UndoJoined.j1 kj2 bt142.1 bt150.1 bt154.1 true)) else (commodatumlaw12_UndoJoined.j1 kj2 bt142.1 bt150.1 bt154.1 true)) else (commodatumlaw12_UndoJoined.j1 kj2 bt142.1 bt150.1 bt154.1 true)) else (commodatumlaw12_UndoJoined.j1 kj2 bt142.1 bt150.1 bt154.1 true))))))))) = some r := H
    have A53 := aM A530
    clear A530
    replace H := Option.bind_eq_some_iff.mp H
    obtain ⟨⟨t128, t129⟩, A540, H⟩ := H
    replace H : ((undo_Join.f kj2 t124 t125 t128 t129).bind fun bt132 => ((commodatumlaw12_Copy.f a0_0 l0_1).bind fun bt138 => ((undo_Permutation.f kj2 bt138.1 bt138.2).bind fun bt142 => ((commodatumlaw12_Copy.f a1_0 l1_1).bind fun bt146 => ((undo_Permutation.f kj2 bt146.1 bt146.2).bind fun bt150 => ((undo_Permutation.f kj2 bt132.1 bt132.2.1).bind fun bt154 => (if bt132.2.2 = 0 then (if bt142.2 = 0 then (if bt150.2 = 0 then (if bt154.2 = 0 then (if 0 ≤ a0_0 then (if (bt142.1.length : Int) = (shl .i64 1 a0_0) then (if (bt150.1.length : Int) = (bt142.1.length : Int) then (commodatumlaw12_UndoJoined.j1 kj2 bt142.1 bt150.1 bt154.1 ((bt154.1.length : Int) != (bt142.1.length : Int))) else (commodatumlaw12_UndoJoined.j1 kj2 bt142.1 bt150.1 bt154.1 true)) else (commodatumlaw12_UndoJoined.j1 kj2 bt142.1 bt150.1 bt154.1 true)) else (none)) else (commodatumlaw12_UndoJoined.j1 kj2 bt142.1 bt150.1 bt154.1 true)) else (commodatumlaw12_UndoJoined.j1 kj2 bt142.1 bt150.1 bt154.1 true)) else (commodatumlaw12_UndoJoined.j1 kj2 bt142.1 bt150.1 bt154.1 true)) else (commodatumlaw12_UndoJoined.j1 kj2 bt142.1 bt150.1 bt154.1 true)))))))) = some r := H
    have A54 := aM A540
    clear A540
    replace H := Option.bind_eq_some_iff.mp H
    obtain ⟨⟨t132, t133, t136⟩, A550, H⟩ := H
    replace H : ((commodatumlaw12_Copy.f a0_0 l0_1).bind fun bt138 => ((undo_Permutation.f kj2 bt138.1 bt138.2).bind fun bt142 => ((commodatumlaw12_Copy.f a1_0 l1_1).bind fun bt146 => ((undo_Permutation.f kj2 bt146.1 bt146.2).bind fun bt150 => ((undo_Permutation.f kj2 t132 t133).bind fun bt154 => (if t136 = 0 then (if bt142.2 = 0 then (if bt150.2 = 0 then (if bt154.2 = 0 then (if 0 ≤ a0_0 then (if (bt142.1.length : Int) = (shl .i64 1 a0_0) then (if (bt150.1.length : Int) = (bt142.1.length : Int) then (commodatumlaw12_UndoJoined.j1 kj2 bt142.1 bt150.1 bt154.1 ((bt154.1.length : Int) != (bt142.1.length : Int))) else (commodatumlaw12_UndoJoined.j1 kj2 bt142.1 bt150.1 bt154.1 true)) else (commodatumlaw12_UndoJoined.j1 kj2 bt142.1 bt150.1 bt154.1 true)) else (none)) else (commodatumlaw12_UndoJoined.j1 kj2 bt142.1 bt150.1 bt154.1 true)) else (commodatumlaw12_UndoJoined.j1 kj2 bt142.1 bt150.1 bt154.1 true)) else (commodatumlaw12_UndoJoined.j1 kj2 bt142.1 bt150.1 bt154.1 true)) else (commodatumlaw12_UndoJoined.j1 kj2 bt142.1 bt150.1 bt154.1 true))))))) = some r := H
    have A55 := aM A550
    clear A550
    replace H := Option.bind_eq_some_iff.mp H
    obtain ⟨⟨t138, t139⟩, A560, H⟩ := H
    replace H : ((undo_Permutation.f kj2 t138 t139).bind fun bt142 => ((commodatumlaw12_Copy.f a1_0 l1_1).bind fun bt146 => ((undo_Permutation.f kj2 bt146.1 bt146.2).bind fun bt150 => ((undo_Permutation.f kj2 t132 t133).bind fun bt154 => (if t136 = 0 then (if bt142.2 = 0 then (if bt150.2 = 0 then (if bt154.2 = 0 then (if 0 ≤ a0_0 then (if (bt142.1.length : Int) = (shl .i64 1 a0_0) then (if (bt150.1.length : Int) = (bt142.1.length : Int) then (commodatumlaw12_UndoJoined.j1 kj2 bt142.1 bt150.1 bt154.1 ((bt154.1.length : Int) != (bt142.1.length : Int))) else (commodatumlaw12_UndoJoined.j1 kj2 bt142.1 bt150.1 bt154.1 true)) else (commodatumlaw12_UndoJoined.j1 kj2 bt142.1 bt150.1 bt154.1 true)) else (none)) else (commodatumlaw12_UndoJoined.j1 kj2 bt142.1 bt150.1 bt154.1 true)) else (commodatumlaw12_UndoJoined.j1 kj2 bt142.1 bt150.1 bt154.1 true)) else (commodatumlaw12_UndoJoined.j1 kj2 bt142.1 bt150.1 bt154.1 true)) else (commodatumlaw12_UndoJoined.j1 kj2 bt142.1 bt150.1 bt154.1 true)))))) = some r := H
    have A56 := aM A560
    clear A560
    replace H := Option.bind_eq_some_iff.mp H
    obtain ⟨⟨t142, t145⟩, A570, H⟩ := H
    replace H : ((commodatumlaw12_Copy.f a1_0 l1_1).bind fun bt146 => ((undo_Permutation.f kj2 bt146.1 bt146.2).bind fun bt150 => ((undo_Permutation.f kj2 t132 t133).bind fun bt154 => (if t136 = 0 then (if t145 = 0 then (if bt150.2 = 0 then (if bt154.2 = 0 then (if 0 ≤ a0_0 then (if (t142.length : Int) = (shl .i64 1 a0_0) then (if (bt150.1.length : Int) = (t142.length : Int) then (commodatumlaw12_UndoJoined.j1 kj2 t142 bt150.1 bt154.1 ((bt154.1.length : Int) != (t142.length : Int))) else (commodatumlaw12_UndoJoined.j1 kj2 t142 bt150.1 bt154.1 true)) else (commodatumlaw12_UndoJoined.j1 kj2 t142 bt150.1 bt154.1 true)) else (none)) else (commodatumlaw12_UndoJoined.j1 kj2 t142 bt150.1 bt154.1 true)) else (commodatumlaw12_UndoJoined.j1 kj2 t142 bt150.1 bt154.1 true)) else (commodatumlaw12_UndoJoined.j1 kj2 t142 bt150.1 bt154.1 true)) else (commodatumlaw12_UndoJoined.j1 kj2 t142 bt150.1 bt154.1 true))))) = some r := H
    have A57 := aM A570
    clear A570
    replace H := Option.bind_eq_some_iff.mp H
    obtain ⟨⟨t146, t147⟩, A580, H⟩ := H
    replace H : ((undo_Permutation.f kj2 t146 t147).bind fun bt150 => ((undo_Permutation.f kj2 t132 t133).bind fun bt154 => (if t136 = 0 then (if t145 = 0 then (if bt150.2 = 0 then (if bt154.2 = 0 then (if 0 ≤ a0_0 then (if (t142.length : Int) = (shl .i64 1 a0_0) then (if (bt150.1.length : Int) = (t142.length : Int) then (commodatumlaw12_UndoJoined.j1 kj2 t142 bt150.1 bt154.1 ((bt154.1.length : Int) != (t142.length : Int))) else (commodatumlaw12_UndoJoined.j1 kj2 t142 bt150.1 bt154.1 true)) else (commodatumlaw12_UndoJoined.j1 kj2 t142 bt150.1 bt154.1 true)) else (none)) else (commodatumlaw12_UndoJoined.j1 kj2 t142 bt150.1 bt154.1 true)) else (commodatumlaw12_UndoJoined.j1 kj2 t142 bt150.1 bt154.1 true)) else (commodatumlaw12_UndoJoined.j1 kj2 t142 bt150.1 bt154.1 true)) else (commodatumlaw12_UndoJoined.j1 kj2 t142 bt150.1 bt154.1 true)))) = some r := H
    have A58 := aM A580
    clear A580
    replace H := Option.bind_eq_some_iff.mp H
    obtain ⟨⟨t150, t153⟩, A590, H⟩ := H
    replace H : ((undo_Permutation.f kj2 t132 t133).bind fun bt154 => (if t136 = 0 then (if t145 = 0 then (if t153 = 0 then (if bt154.2 = 0 then (if 0 ≤ a0_0 then (if (t142.length : Int) = (shl .i64 1 a0_0) then (if (t150.length : Int) = (t142.length : Int) then (commodatumlaw12_UndoJoined.j1 kj2 t142 t150 bt154.1 ((bt154.1.length : Int) != (t142.length : Int))) else (commodatumlaw12_UndoJoined.j1 kj2 t142 t150 bt154.1 true)) else (commodatumlaw12_UndoJoined.j1 kj2 t142 t150 bt154.1 true)) else (none)) else (commodatumlaw12_UndoJoined.j1 kj2 t142 t150 bt154.1 true)) else (commodatumlaw12_UndoJoined.j1 kj2 t142 t150 bt154.1 true)) else (commodatumlaw12_UndoJoined.j1 kj2 t142 t150 bt154.1 true)) else (commodatumlaw12_UndoJoined.j1 kj2 t142 t150 bt154.1 true))) = some r := H
    have A59 := aM A590
    clear A590
    replace H := Option.bind_eq_some_iff.mp H
    obtain ⟨⟨t154, t157⟩, A600, H⟩ := H
    replace H : (if t136 = 0 then (if t145 = 0 then (if t153 = 0 then (if t157 = 0 then (if 0 ≤ a0_0 then (if (t142.length : Int) = (shl .i64 1 a0_0) then (if (t150.length : Int) = (t142.length : Int) then (commodatumlaw12_UndoJoined.j1 kj2 t142 t150 t154 ((t154.length : Int) != (t142.length : Int))) else (commodatumlaw12_UndoJoined.j1 kj2 t142 t150 t154 true)) else (commodatumlaw12_UndoJoined.j1 kj2 t142 t150 t154 true)) else (none)) else (commodatumlaw12_UndoJoined.j1 kj2 t142 t150 t154 true)) else (commodatumlaw12_UndoJoined.j1 kj2 t142 t150 t154 true)) else (commodatumlaw12_UndoJoined.j1 kj2 t142 t150 t154 true)) else (commodatumlaw12_UndoJoined.j1 kj2 t142 t150 t154 true)) = some r := H
    have A60 := aM A600
    clear A600
    have HC61 := aM H
    clear H
    try go_wp2
    replace B12 := aM (bB B12.out)
    replace B13 := aM (bB B13.out)
    replace HB := aM (pE HB.out)
    refine start_ (n := 11) (S := fun w' => w'.cell? ⟨gb112, 0, none⟩ = some (.int .i64 a0_0) ∧ w'.cell? ⟨gb112, 1, none⟩ = some (.slice A0_1 l0_1.length c0_1) ∧ w'.cell? ⟨gb113, 0, none⟩ = some (.int .i64 a1_0) ∧ w'.cell? ⟨gb113, 1, none⟩ = some (.slice A1_1 l1_1.length c1_1)) (ds := []) z43j2 (by kernel_rfl) rfl rfl ⟨(bE B12.out 0).trans rfl, (bE B12.out 1).trans rfl, (bE B13.out 0).trans rfl, (bE B13.out 1).trans rfl⟩ (fun hHeld => ?_); refine with_tabW commodatumlaw12_UndoJoined.tab3 commodatumlaw12_UndoJoined.bits3 (fun HT_ HW_ => ?_)
    generalize wc.drew = w62 at B12 B13 HB hHeld ⊢
    refine take_ (i := 0) (N := some 53) (v := ?_) (a' := ?_) z44j2 rfl rfl (take_ofW HT_.out HW_.out (by kernel_rfl)) (fun _ _ _ h => h) (Or.inl ⟨by rfl, ?_⟩) hHeld ?_ ?_; rotate_left; (rintro w' ⟨s0, s1, s2, s3⟩; go_simp; with_reducible rfl); rotate_left; (simp only [Act.put, pSj2, i64_w]; rfl)
    refine take_ (i := 2) (N := some 55) (v := ?_) (a' := ?_) z45j2 rfl rfl (take_ofW HT_.out HW_.out (by kernel_rfl)) (fun _ _ _ h => h) (Or.inl ⟨by rfl, ?_⟩) hHeld ?_ ?_; rotate_left; (rintro w' ⟨s0, s1, s2, s3⟩; go_simp; with_reducible rfl); rotate_left; (simp only [Act.put, pSj2, i64_w]; rfl)
    refine join_ (σ := Value × Value × Value × Nat) 2 z46j2 (fun s_ => [(54, .agg #[.int .i64 t124, s_.1]), (56, .agg #[.int .i64 t128, s_.2.1]), (57, .tuple #[.agg #[.int .i64 t132, s_.2.2.1], .int .i64 t136]), (5, .pointer (some ⟨s_.2.2.2, 0, none⟩)), (52, .tuple #[.agg #[.int .i64 t132, s_.2.2.1], .int .i64 t136]), (58, .agg #[.int .i64 t132, s_.2.2.1]), (59, .int .i64 t136)]) (fun s_ w' => (w'.cell? ⟨gb112, 0, none⟩ = some (.int .i64 a0_0) ∧ w'.cell? ⟨gb112, 1, none⟩ = some (.slice A0_1 l0_1.length c0_1) ∧ w'.cell? ⟨gb113, 0, none⟩ = some (.int .i64 a1_0) ∧ w'.cell? ⟨gb113, 1, none⟩ = some (.slice A1_1 l1_1.length c1_1)) ∧ (Kd.R k67 67 w' w.heap.size (fun k_ => some k_ ≠ (s_.2.1 : Value).ownBlock ∧ some k_ ≠ (s_.2.2.1 : Value).ownBlock) s_.1 t125) ∧ (Kd.R k67 67 w' w.heap.size (fun k_ => some k_ ≠ (s_.1 : Value).ownBlock ∧ some k_ ≠ (s_.2.2.1 : Value).ownBlock) s_.2.1 t129) ∧ (Kd.R k67 67 w' w.heap.size (fun k_ => some k_ ≠ (s_.1 : Value).ownBlock ∧ some k_ ≠ (s_.2.1 : Value).ownBlock) s_.2.2.1 t133) ∧ (w'.heap[gb112]? = some (.cells #[.int .i64 a0_0, .slice A0_1 l0_1.length c0_1] 25 (0, 0))) ∧ (w'.heap[gb113]? = some (.cells #[.int .i64 a1_0, .slice A1_1 l1_1.length c1_1] 25 (0, 0))) ∧ (w'.heap[s_.2.2.2]? = some (.cells #[.int .i64 0, .slice none 0 0] 25 (0, 0))) ∧ (w.heap.size ≤ s_.2.2.2) ∧ (w.heap.size ≤ s_.2.2.2) ∧ (gb112 ≠ s_.2.2.2) ∧ (s_.2.2.2 ≠ gb112) ∧ (gb113 ≠ s_.2.2.2) ∧ (s_.2.2.2 ≠ gb113) ∧ (Below w.heap.size w w')) ?_ ?_
    rotate_left
    ·intro hCont
     refine two_ (i := 1) (j := 8) (Ni := some 54) (Nj := some 5) z47j2 z48j2 rfl rfl rfl rfl (two_of HT_.out (by kernel_rfl)) (by decide) (by decide) (fun K hK => ?_) (fun K hK => ?_)
     ·skip
      refine goes_ Tryd.func24 (by kernel_rfl) rfl #[.agg #[.int .i64 a0_0, .slice A0_1 l0_1.length c0_1]] (by rfl) rfl rfl (by (try simp only [List.map_toArray, List.map_cons, List.map_nil]); first | done | rfl | (simp only [List.length_drop, List.length_take]; rfl)) ?_
      with_reducible refine (commodatumlaw12_Copy.calls a0_0 _ _ l0_1 t124 t125 _ ?side1 ?side2 A53.out).mono ?_
      (case side1 => with_reducible apply_rules [(cD HR0_1.out HB.out), cA, cB, cC])
      (case side2 => exact HC0_1.out)
      rintro e w63 ⟨v126, rfl, ho0, hb⟩
      refine ⟨_, rfl, ?_⟩
      have HO127 := aM (Kd.R_lower ho0 (below_size (by (with_reducible apply_rules [HB.out, pA, pD, pE, sT, GE112.out, GE113.out]))))
      replace B12 := aM (bD (g := gb112) (o := .cells #[.int .i64 a0_0, .slice A0_1 l0_1.length c0_1] 25 (0, 0)) (by with_reducible apply_rules [B12.out, bA, bB, bC]) hb)
      replace B13 := aM (bD (g := gb113) (o := .cells #[.int .i64 a1_0, .slice A1_1 l1_1.length c1_1] 25 (0, 0)) (by with_reducible apply_rules [B13.out, bA, bB, bC]) hb)
      replace HB := aM (pS_ (by (with_reducible apply_rules [HB.out, pA, pD, pE, sT, GE112.out, GE113.out])) hb)
      (try clear hb)
      (try clear hb2)
      (try clear hk)
      (try clear hi)
      (try clear ho0)
      refine hK.out _ _ ⟨(bE B12.out 0).trans rfl, (bE B12.out 1).trans rfl, (bE B13.out 0).trans rfl, (bE B13.out 1).trans rfl⟩ (fun hHeld => ?_)
      clear hK K
      refine norm_ (a' := ?_) ?_ ?_
      rotate_left
      ·show Act.put _ (some 54) _ = _
       simp only [Act.put, pSj2, i64_w]
       rfl
      refine two_ (i := 3) (j := 8) (Ni := some 56) (Nj := some 5) z49j2 z50j2 rfl rfl rfl rfl (two_of HT_.out (by kernel_rfl)) (by decide) (by decide) (fun K hK => ?_) (fun K hK => ?_)
      ·skip
       refine goes_ Tryd.func24 (by kernel_rfl) rfl #[.agg #[.int .i64 a1_0, .slice A1_1 l1_1.length c1_1]] (by rfl) rfl rfl (by (try simp only [List.map_toArray, List.map_cons, List.map_nil]); first | done | rfl | (simp only [List.length_drop, List.length_take]; rfl)) ?_
       with_reducible refine (commodatumlaw12_Copy.calls a1_0 _ _ l1_1 t128 t129 _ ?side1 ?side2 A54.out).mono ?_
       (case side1 => with_reducible apply_rules [(cD HR1_1.out HB.out), cA, cB, cC])
       (case side2 => exact HC1_1.out)
       rintro e w64 ⟨v130, rfl, ho0, hb⟩
       refine ⟨_, rfl, ?_⟩
       have HO131 := aM (Kd.R_lower (Kd.R_new' ho0 (Kd.R_lt (by with_reducible apply_rules [HO127.out, rA, rB, rC]))) (below_size (by (with_reducible apply_rules [HB.out, pA, pD, pE, sT, GE112.out, GE113.out]))))
       replace HO127 := aM (Kd.R_elder' (by with_reducible apply_rules [HO127.out, rA, rB, rC]) (Kd.R_base ho0) hb)
       replace B12 := aM (bD (g := gb112) (o := .cells #[.int .i64 a0_0, .slice A0_1 l0_1.length c0_1] 25 (0, 0)) (by with_reducible apply_rules [B12.out, bA, bB, bC]) hb)
       replace B13 := aM (bD (g := gb113) (o := .cells #[.int .i64 a1_0, .slice A1_1 l1_1.length c1_1] 25 (0, 0)) (by with_reducible apply_rules [B13.out, bA, bB, bC]) hb)
       replace HB := aM (pS_ (by (with_reducible apply_rules [HB.out, pA, pD, pE, sT, GE112.out, GE113.out])) hb)
       (try clear hb)
       (try clear hb2)
       (try clear hk)
       (try clear hi)
       (try clear ho0)
       obtain ⟨Ao65, co65, eo65⟩ := Kd.R_slice HO127.out
       (first | subst eo65 | (injection eo65 with f1_ f2_ f3_; have f4_ := f1_.symm; have f5_ := f3_.symm; clear f1_ f2_ f3_; subst f4_; subst f5_))
       obtain ⟨Ao66, co66, eo66⟩ := Kd.R_slice HO131.out
       (first | subst eo66 | (injection eo66 with f1_ f2_ f3_; have f4_ := f1_.symm; have f5_ := f3_.symm; clear f1_ f2_ f3_; subst f4_; subst f5_))
       refine hK.out _ _ ⟨(bE B12.out 0).trans rfl, (bE B12.out 1).trans rfl, (bE B13.out 0).trans rfl, (bE B13.out 1).trans rfl⟩ (fun hHeld => ?_)
       clear hK K
       refine norm_ (a' := ?_) ?_ ?_
       rotate_left
       ·show Act.put _ (some 56) _ = _
        simp only [Act.put, pSj2, i64_w]
        rfl
       refine two_ (i := 4) (j := 8) (Ni := some 57) (Nj := some 5) z51j2 z52j2 rfl rfl rfl rfl (two_of HT_.out (by kernel_rfl)) (by decide) (by decide) (fun K hK => ?_) (fun K hK => ?_)
       ·skip
        refine goes_ Tryd.func38 (by kernel_rfl) rfl #[.agg #[.int .i64 t124, .slice Ao65 t125.length co65], .agg #[.int .i64 t128, .slice Ao66 t129.length co66]] (by rfl) rfl rfl (by (try simp only [List.map_toArray, List.map_cons, List.map_nil]); first | done | rfl | (simp only [List.length_drop, List.length_take]; rfl)) ?_
        with_reducible refine (undo_Join.calls kj2 t124 (fun k_ => some k_ = (.slice Ao65 t125.length co65 : Value).ownBlock) _ _ t125 t128 (fun k_ => some k_ = (.slice Ao66 t129.length co66 : Value).ownBlock) _ _ t129 t132 t133 t136 _ ?side1 ?side2 A55.out).mono ?_
        (case side1 => exact Kd.R_V (Kd.R_tight rfl (Kd.R_types (Kd.R_types (HO127.out) B12.out (by decide)) B13.out (by decide))))
        (case side2 => exact Kd.R_V (Kd.R_tight rfl (Kd.R_types (Kd.R_types (HO131.out) B12.out (by decide)) B13.out (by decide))))
        rintro e w67 ⟨v134, rfl, ho0, hb⟩
        refine ⟨_, rfl, ?_⟩
        have HO135 := aM (Kd.R_lower (Kd.R_new' (Kd.R_new' (rE (ok' := fun k_ => True) ho0 (fun _ hk_ => trivial)) (Kd.R_lt (by with_reducible apply_rules [HO127.out, rA, rB, rC]))) (Kd.R_lt (by with_reducible apply_rules [HO131.out, rA, rB, rC]))) (below_size (by (with_reducible apply_rules [HB.out, pA, pD, pE, sT, GE112.out, GE113.out]))))
        replace HO127 := aM (Kd.R_elder' (by with_reducible apply_rules [HO127.out, rA, rB, rC]) (Kd.R_base ho0) hb)
        replace HO131 := aM (Kd.R_elder' (by with_reducible apply_rules [HO131.out, rA, rB, rC]) (Kd.R_base ho0) hb)
        replace B12 := aM (bD (g := gb112) (o := .cells #[.int .i64 a0_0, .slice A0_1 l0_1.length c0_1] 25 (0, 0)) (by with_reducible apply_rules [B12.out, bA, bB, bC]) hb)
        replace B13 := aM (bD (g := gb113) (o := .cells #[.int .i64 a1_0, .slice A1_1 l1_1.length c1_1] 25 (0, 0)) (by with_reducible apply_rules [B13.out, bA, bB, bC]) hb)
        replace HB := aM (pS_ (by (with_reducible apply_rules [HB.out, pA, pD, pE, sT, GE112.out, GE113.out])) hb)
        (try clear hb)
        (try clear hb2)
        (try clear hk)
        (try clear hi)
        (try clear ho0)
        refine hK.out _ _ ⟨(bE B12.out 0).trans rfl, (bE B12.out 1).trans rfl, (bE B13.out 0).trans rfl, (bE B13.out 1).trans rfl⟩ (fun hHeld => ?_)
        clear hK K
        refine norm_ (a' := ?_) ?_ ?_
        rotate_left
        ·show Act.put _ (some 57) _ = _
         simp only [Act.put, pSj2, i64_w]
         rfl
        refine pure_ (i := 5) (N := some 52) (v := ?_) (a' := ?_) z53j2 rfl rfl (any_of HT_.out (by kernel_rfl)) (fun _ _ _ h => h) (Or.inl ⟨by rfl, ?_⟩) ?_ ?_; rotate_left; (intro w'; go_simp; with_reducible rfl); rotate_left; (simp only [Act.put, pSj2, i64_w]; rfl)
        refine pure_ (i := 6) (N := some 58) (v := ?_) (a' := ?_) z54j2 rfl rfl (any_of HT_.out (by kernel_rfl)) (fun _ _ _ h => h) (Or.inl ⟨by rfl, ?_⟩) ?_ ?_; rotate_left; (intro w'; go_simp; with_reducible rfl); rotate_left; (simp only [Act.put, pSj2, i64_w]; rfl)
        refine pure_ (i := 7) (N := some 59) (v := ?_) (a' := ?_) z55j2 rfl rfl (any_of HT_.out (by kernel_rfl)) (fun _ _ _ h => h) (Or.inl ⟨by rfl, ?_⟩) ?_ ?_; rotate_left; (intro w'; go_simp; with_reducible rfl); rotate_left; (simp only [Act.put, pSj2, i64_w]; rfl)
        refine one_ (i := 8) (N := some 5) z46j2 rfl rfl (one_of HT_.out (by kernel_rfl)) (by decide) (fun K hK => ?_)
        refine box_step ?hg (N := 5) ?hd (cs := #[.int .i64 0, .slice none 0 0]) (t := 25) ?hr ?_; (case hd => rfl); (case hg => rfl); (case hr => first | (go_simp; done) | (go_simp; rfl))
        intro gb137 hg w68 hbox hb
        replace HO127 := aM (rD (by with_reducible apply_rules [HO127.out, rA, rB, rC]) hb)
        replace HO131 := aM (rD (by with_reducible apply_rules [HO131.out, rA, rB, rC]) hb)
        replace HO135 := aM (rD (by with_reducible apply_rules [HO135.out, rA, rB, rC]) hb)
        have B37 := aM (hbox)
        have GW137 := aM ((by rw [hg]; exact (below_size (by (with_reducible apply_rules [HB.out, pA, pD, pE, sT, GE112.out, GE113.out]))) : w.heap.size ≤ gb137))
        have GE137 := aM ((by rw [hg]; exact (below_size (by (with_reducible apply_rules [HB.out, pA, pD, pE, sT, GE112.out, GE113.out]))) : w.heap.size ≤ gb137))
        replace HB := aM (pS_ (by (with_reducible apply_rules [HB.out, pA, pD, pE, sT, GE112.out, GE113.out])) hb)
        have NB112_137 := aM ((by rw [hg]; exact Nat.ne_of_lt (blk_lt (g := gb112) (o := .cells #[.int .i64 a0_0, .slice A0_1 l0_1.length c0_1] 25 (0, 0)) (by with_reducible apply_rules [B12.out, bA, bB, bC])) : gb112 ≠ gb137))
        have NB137_112 := aM ((by rw [hg]; exact Nat.ne_of_gt (blk_lt (g := gb112) (o := .cells #[.int .i64 a0_0, .slice A0_1 l0_1.length c0_1] 25 (0, 0)) (by with_reducible apply_rules [B12.out, bA, bB, bC])) : gb137 ≠ gb112))
        replace B12 := aM (bD (g := gb112) (o := .cells #[.int .i64 a0_0, .slice A0_1 l0_1.length c0_1] 25 (0, 0)) (by with_reducible apply_rules [B12.out, bA, bB, bC]) hb)
        have NB113_137 := aM ((by rw [hg]; exact Nat.ne_of_lt (blk_lt (g := gb113) (o := .cells #[.int .i64 a1_0, .slice A1_1 l1_1.length c1_1] 25 (0, 0)) (by with_reducible apply_rules [B13.out, bA, bB, bC])) : gb113 ≠ gb137))
        have NB137_113 := aM ((by rw [hg]; exact Nat.ne_of_gt (blk_lt (g := gb113) (o := .cells #[.int .i64 a1_0, .slice A1_1 l1_1.length c1_1] 25 (0, 0)) (by with_reducible apply_rules [B13.out, bA, bB, bC])) : gb137 ≠ gb113))
        replace B13 := aM (bD (g := gb113) (o := .cells #[.int .i64 a1_0, .slice A1_1 l1_1.length c1_1] 25 (0, 0)) (by with_reducible apply_rules [B13.out, bA, bB, bC]) hb)
        clear hb hbox hg
        refine hK.out _ _ ⟨(bE B12.out 0).trans rfl, (bE B12.out 1).trans rfl, (bE B13.out 0).trans rfl, (bE B13.out 1).trans rfl⟩ (fun hHeld => ?_)
        clear hK K
        refine norm_ (a' := ?_) ?_ ?_
        rotate_left
        ·show Act.put _ (some 5) _ = _
         simp only [Act.put, pSj2, i64_w]
         rfl
        exact norm_ (by simp only [putAll, Act.put, pSj2]) (hCont (.slice Ao65 t125.length co65, .slice Ao66 t129.length co66, v134, gb137) _ ⟨hHeld, (by (with_reducible repeat (first | apply rA | apply rB | apply rC)); exact rE HO127.out (fun _ hk => ⟨hk.1.2, hk.2⟩)), (by (with_reducible repeat (first | apply rA | apply rB | apply rC)); exact rE HO131.out (fun _ hk => ⟨hk.1.2, hk.2⟩)), (by (with_reducible repeat (first | apply rA | apply rB | apply rC)); exact rE HO135.out (fun _ hk => ⟨hk.1.2, hk.2⟩)), (by with_reducible apply_rules [B12.out, bA, bB, bC]), (by with_reducible apply_rules [B13.out, bA, bB, bC]), (by with_reducible apply_rules [B37.out, bA, bB, bC]), GW137.out, GE137.out, NB112_137.out, NB137_112.out, NB113_137.out, NB137_113.out, (by (with_reducible apply_rules [HB.out, pA, pD, pE, sT, GE112.out, GE113.out, GE137.out]))⟩)
       ·skip
        refine box_step ?hg (N := 5) ?hd (cs := #[.int .i64 0, .slice none 0 0]) (t := 25) ?hr ?_; (case hd => rfl); (case hg => rfl); (case hr => first | (go_simp; done) | (go_simp; rfl))
        intro gb137 hg w65 hbox hb
        replace HO127 := aM (rD (by with_reducible apply_rules [HO127.out, rA, rB, rC]) hb)
        replace HO131 := aM (rD (by with_reducible apply_rules [HO131.out, rA, rB, rC]) hb)
        have B37 := aM (hbox)
        have GW137 := aM ((by rw [hg]; exact (below_size (by (with_reducible apply_rules [HB.out, pA, pD, pE, sT, GE112.out, GE113.out]))) : w.heap.size ≤ gb137))
        have GE137 := aM ((by rw [hg]; exact (below_size (by (with_reducible apply_rules [HB.out, pA, pD, pE, sT, GE112.out, GE113.out]))) : w.heap.size ≤ gb137))
        replace HB := aM (pS_ (by (with_reducible apply_rules [HB.out, pA, pD, pE, sT, GE112.out, GE113.out])) hb)
        have NB112_137 := aM ((by rw [hg]; exact Nat.ne_of_lt (blk_lt (g := gb112) (o := .cells #[.int .i64 a0_0, .slice A0_1 l0_1.length c0_1] 25 (0, 0)) (by with_reducible apply_rules [B12.out, bA, bB, bC])) : gb112 ≠ gb137))
        have NB137_112 := aM ((by rw [hg]; exact Nat.ne_of_gt (blk_lt (g := gb112) (o := .cells #[.int .i64 a0_0, .slice A0_1 l0_1.length c0_1] 25 (0, 0)) (by with_reducible apply_rules [B12.out, bA, bB, bC])) : gb137 ≠ gb112))
        replace B12 := aM (bD (g := gb112) (o := .cells #[.int .i64 a0_0, .slice A0_1 l0_1.length c0_1] 25 (0, 0)) (by with_reducible apply_rules [B12.out, bA, bB, bC]) hb)
        have NB113_137 := aM ((by rw [hg]; exact Nat.ne_of_lt (blk_lt (g := gb113) (o := .cells #[.int .i64 a1_0, .slice A1_1 l1_1.length c1_1] 25 (0, 0)) (by with_reducible apply_rules [B13.out, bA, bB, bC])) : gb113 ≠ gb137))
        have NB137_113 := aM ((by rw [hg]; exact Nat.ne_of_gt (blk_lt (g := gb113) (o := .cells #[.int .i64 a1_0, .slice A1_1 l1_1.length c1_1] 25 (0, 0)) (by with_reducible apply_rules [B13.out, bA, bB, bC])) : gb137 ≠ gb113))
        replace B13 := aM (bD (g := gb113) (o := .cells #[.int .i64 a1_0, .slice A1_1 l1_1.length c1_1] 25 (0, 0)) (by with_reducible apply_rules [B13.out, bA, bB, bC]) hb)
        clear hb hbox hg
        obtain ⟨Ao66, co66, eo66⟩ := Kd.R_slice HO127.out
        (first | subst eo66 | (injection eo66 with f1_ f2_ f3_; have f4_ := f1_.symm; have f5_ := f3_.symm; clear f1_ f2_ f3_; subst f4_; subst f5_))
        obtain ⟨Ao67, co67, eo67⟩ := Kd.R_slice HO131.out
        (first | subst eo67 | (injection eo67 with f1_ f2_ f3_; have f4_ := f1_.symm; have f5_ := f3_.symm; clear f1_ f2_ f3_; subst f4_; subst f5_))
        refine hK.out _ _ ⟨(bE B12.out 0).trans rfl, (bE B12.out 1).trans rfl, (bE B13.out 0).trans rfl, (bE B13.out 1).trans rfl⟩ (fun hHeld => ?_)
        clear hK K
        refine norm_ (a' := ?_) ?_ ?_
        rotate_left
        ·show Act.put _ (some 5) _ = _
         simp only [Act.put, pSj2, i64_w]
         rfl
        refine one_ (i := 4) (N := some 57) z56j2 rfl rfl (one_of HT_.out (by kernel_rfl)) (by decide) (fun K hK => ?_)
        refine goes_ Tryd.func38 (by kernel_rfl) rfl #[.agg #[.int .i64 t124, .slice Ao66 t125.length co66], .agg #[.int .i64 t128, .slice Ao67 t129.length co67]] (by rfl) rfl rfl (by (try simp only [List.map_toArray, List.map_cons, List.map_nil]); first | done | rfl | (simp only [List.length_drop, List.length_take]; rfl)) ?_
        with_reducible refine (undo_Join.calls kj2 t124 (fun k_ => some k_ = (.slice Ao66 t125.length co66 : Value).ownBlock) _ _ t125 t128 (fun k_ => some k_ = (.slice Ao67 t129.length co67 : Value).ownBlock) _ _ t129 t132 t133 t136 _ ?side1 ?side2 A55.out).mono ?_
        (case side1 => exact Kd.R_V (Kd.R_tight rfl (Kd.R_types (Kd.R_types (Kd.R_types (HO127.out) B12.out (by decide)) B13.out (by decide)) B37.out (by decide))))
        (case side2 => exact Kd.R_V (Kd.R_tight rfl (Kd.R_types (Kd.R_types (Kd.R_types (HO131.out) B12.out (by decide)) B13.out (by decide)) B37.out (by decide))))
        rintro e w68 ⟨v134, rfl, ho0, hb⟩
        refine ⟨_, rfl, ?_⟩
        have HO135 := aM (Kd.R_lower (Kd.R_new' (Kd.R_new' (rE (ok' := fun k_ => True) ho0 (fun _ hk_ => trivial)) (Kd.R_lt (by with_reducible apply_rules [HO127.out, rA, rB, rC]))) (Kd.R_lt (by with_reducible apply_rules [HO131.out, rA, rB, rC]))) (below_size (by (with_reducible apply_rules [HB.out, pA, pD, pE, sT, GE112.out, GE113.out, GE137.out]))))
        replace HO127 := aM (Kd.R_elder' (by with_reducible apply_rules [HO127.out, rA, rB, rC]) (Kd.R_base ho0) hb)
        replace HO131 := aM (Kd.R_elder' (by with_reducible apply_rules [HO131.out, rA, rB, rC]) (Kd.R_base ho0) hb)
        replace B12 := aM (bD (g := gb112) (o := .cells #[.int .i64 a0_0, .slice A0_1 l0_1.length c0_1] 25 (0, 0)) (by with_reducible apply_rules [B12.out, bA, bB, bC]) hb)
        replace B13 := aM (bD (g := gb113) (o := .cells #[.int .i64 a1_0, .slice A1_1 l1_1.length c1_1] 25 (0, 0)) (by with_reducible apply_rules [B13.out, bA, bB, bC]) hb)
        replace B37 := aM (bD (g := gb137) (o := .cells #[.int .i64 0, .slice none 0 0] 25 (0, 0)) (by with_reducible apply_rules [B37.out, bA, bB, bC]) hb)
        replace HB := aM (pS_ (by (with_reducible apply_rules [HB.out, pA, pD, pE, sT, GE112.out, GE113.out, GE137.out])) hb)
        (try clear hb)
        (try clear hb2)
        (try clear hk)
        (try clear hi)
        (try clear ho0)
        refine hK.out _ _ ⟨(bE B12.out 0).trans rfl, (bE B12.out 1).trans rfl, (bE B13.out 0).trans rfl, (bE B13.out 1).trans rfl⟩ (fun hHeld => ?_)
        clear hK K
        refine norm_ (a' := ?_) ?_ ?_
        rotate_left
        ·show Act.put _ (some 57) _ = _
         simp only [Act.put, pSj2, i64_w]
         rfl
        refine pure_ (i := 5) (N := some 52) (v := ?_) (a' := ?_) z57j2 rfl rfl (any_of HT_.out (by kernel_rfl)) (fun _ _ _ h => h) (Or.inl ⟨by rfl, ?_⟩) ?_ ?_; rotate_left; (intro w'; go_simp; with_reducible rfl); rotate_left; (simp only [Act.put, pSj2, i64_w]; rfl)
        refine pure_ (i := 6) (N := some 58) (v := ?_) (a' := ?_) z58j2 rfl rfl (any_of HT_.out (by kernel_rfl)) (fun _ _ _ h => h) (Or.inl ⟨by rfl, ?_⟩) ?_ ?_; rotate_left; (intro w'; go_simp; with_reducible rfl); rotate_left; (simp only [Act.put, pSj2, i64_w]; rfl)
        refine pure_ (i := 7) (N := some 59) (v := ?_) (a' := ?_) z46j2 rfl rfl (any_of HT_.out (by kernel_rfl)) (fun _ _ _ h => h) (Or.inl ⟨by rfl, ?_⟩) ?_ ?_; rotate_left; (intro w'; go_simp; with_reducible rfl); rotate_left; (simp only [Act.put, pSj2, i64_w]; rfl)
        exact norm_ (by simp only [putAll, Act.put, pSj2]) (hCont (.slice Ao66 t125.length co66, .slice Ao67 t129.length co67, v134, gb137) _ ⟨hHeld, (by (with_reducible repeat (first | apply rA | apply rB | apply rC)); exact rE HO127.out (fun _ hk => ⟨hk.1.2, hk.2⟩)), (by (with_reducible repeat (first | apply rA | apply rB | apply rC)); exact rE HO131.out (fun _ hk => ⟨hk.1.2, hk.2⟩)), (by (with_reducible repeat (first | apply rA | apply rB | apply rC)); exact rE HO135.out (fun _ hk => ⟨hk.1.2, hk.2⟩)), (by with_reducible apply_rules [B12.out, bA, bB, bC]), (by with_reducible apply_rules [B13.out, bA, bB, bC]), (by with_reducible apply_rules [B37.out, bA, bB, bC]), GW137.out, GE137.out, NB112_137.out, NB137_112.out, NB113_137.out, NB137_113.out, (by (with_reducible apply_rules [HB.out, pA, pD, pE, sT, GE112.out, GE113.out, GE137.out]))⟩)
      ·skip
       refine box_step ?hg (N := 5) ?hd (cs := #[.int .i64 0, .slice none 0 0]) (t := 25) ?hr ?_; (case hd => rfl); (case hg => rfl); (case hr => first | (go_simp; done) | (go_simp; rfl))
       intro gb137 hg w64 hbox hb
       replace HO127 := aM (rD (by with_reducible apply_rules [HO127.out, rA, rB, rC]) hb)
       have B37 := aM (hbox)
       have GW137 := aM ((by rw [hg]; exact (below_size (by (with_reducible apply_rules [HB.out, pA, pD, pE, sT, GE112.out, GE113.out]))) : w.heap.size ≤ gb137))
       have GE137 := aM ((by rw [hg]; exact (below_size (by (with_reducible apply_rules [HB.out, pA, pD, pE, sT, GE112.out, GE113.out]))) : w.heap.size ≤ gb137))
       replace HB := aM (pS_ (by (with_reducible apply_rules [HB.out, pA, pD, pE, sT, GE112.out, GE113.out])) hb)
       have NB112_137 := aM ((by rw [hg]; exact Nat.ne_of_lt (blk_lt (g := gb112) (o := .cells #[.int .i64 a0_0, .slice A0_1 l0_1.length c0_1] 25 (0, 0)) (by with_reducible apply_rules [B12.out, bA, bB, bC])) : gb112 ≠ gb137))
       have NB137_112 := aM ((by rw [hg]; exact Nat.ne_of_gt (blk_lt (g := gb112) (o := .cells #[.int .i64 a0_0, .slice A0_1 l0_1.length c0_1] 25 (0, 0)) (by with_reducible apply_rules [B12.out, bA, bB, bC])) : gb137 ≠ gb112))
       replace B12 := aM (bD (g := gb112) (o := .cells #[.int .i64 a0_0, .slice A0_1 l0_1.length c0_1] 25 (0, 0)) (by with_reducible apply_rules [B12.out, bA, bB, bC]) hb)
       have NB113_137 := aM ((by rw [hg]; exact Nat.ne_of_lt (blk_lt (g := gb113) (o := .cells #[.int .i64 a1_0, .slice A1_1 l1_1.length c1_1] 25 (0, 0)) (by with_reducible apply_rules [B13.out, bA, bB, bC])) : gb113 ≠ gb137))
       have NB137_113 := aM ((by rw [hg]; exact Nat.ne_of_gt (blk_lt (g := gb113) (o := .cells #[.int .i64 a1_0, .slice A1_1 l1_1.length c1_1] 25 (0, 0)) (by with_reducible apply_rules [B13.out, bA, bB, bC])) : gb137 ≠ gb113))
       replace B13 := aM (bD (g := gb113) (o := .cells #[.int .i64 a1_0, .slice A1_1 l1_1.length c1_1] 25 (0, 0)) (by with_reducible apply_rules [B13.out, bA, bB, bC]) hb)
       clear hb hbox hg
       refine hK.out _ _ ⟨(bE B12.out 0).trans rfl, (bE B12.out 1).trans rfl, (bE B13.out 0).trans rfl, (bE B13.out 1).trans rfl⟩ (fun hHeld => ?_)
       clear hK K
       refine norm_ (a' := ?_) ?_ ?_
       rotate_left
       ·show Act.put _ (some 5) _ = _
        simp only [Act.put, pSj2, i64_w]
        rfl
       refine one_ (i := 3) (N := some 56) z52j2 rfl rfl (one_of HT_.out (by kernel_rfl)) (by decide) (fun K hK => ?_)
       refine goes_ Tryd.func24 (by kernel_rfl) rfl #[.agg #[.int .i64 a1_0, .slice A1_1 l1_1.length c1_1]] (by rfl) rfl rfl (by (try simp only [List.map_toArray, List.map_cons, List.map_nil]); first | done | rfl | (simp only [List.length_drop, List.length_take]; rfl)) ?_
       with_reducible refine (commodatumlaw12_Copy.calls a1_0 _ _ l1_1 t128 t129 _ ?side1 ?side2 A54.out).mono ?_
       (case side1 => with_reducible apply_rules [(cD HR1_1.out HB.out), cA, cB, cC])
       (case side2 => exact HC1_1.out)
       rintro e w65 ⟨v130, rfl, ho0, hb⟩
       refine ⟨_, rfl, ?_⟩
       have HO131 := aM (Kd.R_lower (Kd.R_new' ho0 (Kd.R_lt (by with_reducible apply_rules [HO127.out, rA, rB, rC]))) (below_size (by (with_reducible apply_rules [HB.out, pA, pD, pE, sT, GE112.out, GE113.out, GE137.out]))))
       replace HO127 := aM (Kd.R_elder' (by with_reducible apply_rules [HO127.out, rA, rB, rC]) (Kd.R_base ho0) hb)
       replace B12 := aM (bD (g := gb112) (o := .cells #[.int .i64 a0_0, .slice A0_1 l0_1.length c0_1] 25 (0, 0)) (by with_reducible apply_rules [B12.out, bA, bB, bC]) hb)
       replace B13 := aM (bD (g := gb113) (o := .cells #[.int .i64 a1_0, .slice A1_1 l1_1.length c1_1] 25 (0, 0)) (by with_reducible apply_rules [B13.out, bA, bB, bC]) hb)
       replace B37 := aM (bD (g := gb137) (o := .cells #[.int .i64 0, .slice none 0 0] 25 (0, 0)) (by with_reducible apply_rules [B37.out, bA, bB, bC]) hb)
       replace HB := aM (pS_ (by (with_reducible apply_rules [HB.out, pA, pD, pE, sT, GE112.out, GE113.out, GE137.out])) hb)
       (try clear hb)
       (try clear hb2)
       (try clear hk)
       (try clear hi)
       (try clear ho0)
       obtain ⟨Ao66, co66, eo66⟩ := Kd.R_slice HO127.out
       (first | subst eo66 | (injection eo66 with f1_ f2_ f3_; have f4_ := f1_.symm; have f5_ := f3_.symm; clear f1_ f2_ f3_; subst f4_; subst f5_))
       obtain ⟨Ao67, co67, eo67⟩ := Kd.R_slice HO131.out
       (first | subst eo67 | (injection eo67 with f1_ f2_ f3_; have f4_ := f1_.symm; have f5_ := f3_.symm; clear f1_ f2_ f3_; subst f4_; subst f5_))
       refine hK.out _ _ ⟨(bE B12.out 0).trans rfl, (bE B12.out 1).trans rfl, (bE B13.out 0).trans rfl, (bE B13.out 1).trans rfl⟩ (fun hHeld => ?_)
       clear hK K
       refine norm_ (a' := ?_) ?_ ?_
       rotate_left
       ·show Act.put _ (some 56) _ = _
        simp only [Act.put, pSj2, i64_w]
        rfl
       refine one_ (i := 4) (N := some 57) z56j2 rfl rfl (one_of HT_.out (by kernel_rfl)) (by decide) (fun K hK => ?_)
       refine goes_ Tryd.func38 (by kernel_rfl) rfl #[.agg #[.int .i64 t124, .slice Ao66 t125.length co66], .agg #[.int .i64 t128, .slice Ao67 t129.length co67]] (by rfl) rfl rfl (by (try simp only [List.map_toArray, List.map_cons, List.map_nil]); first | done | rfl | (simp only [List.length_drop, List.length_take]; rfl)) ?_
       with_reducible refine (undo_Join.calls kj2 t124 (fun k_ => some k_ = (.slice Ao66 t125.length co66 : Value).ownBlock) _ _ t125 t128 (fun k_ => some k_ = (.slice Ao67 t129.length co67 : Value).ownBlock) _ _ t129 t132 t133 t136 _ ?side1 ?side2 A55.out).mono ?_
       (case side1 => exact Kd.R_V (Kd.R_tight rfl (Kd.R_types (Kd.R_types (Kd.R_types (HO127.out) B12.out (by decide)) B13.out (by decide)) B37.out (by decide))))
       (case side2 => exact Kd.R_V (Kd.R_tight rfl (Kd.R_types (Kd.R_types (Kd.R_types (HO131.out) B12.out (by decide)) B13.out (by decide)) B37.out (by decide))))
       rintro e w68 ⟨v134, rfl, ho0, hb⟩
       refine ⟨_, rfl, ?_⟩
       have HO135 := aM (Kd.R_lower (Kd.R_new' (Kd.R_new' (rE (ok' := fun k_ => True) ho0 (fun _ hk_ => trivial)) (Kd.R_lt (by with_reducible apply_rules [HO127.out, rA, rB, rC]))) (Kd.R_lt (by with_reducible apply_rules [HO131.out, rA, rB, rC]))) (below_size (by (with_reducible apply_rules [HB.out, pA, pD, pE, sT, GE112.out, GE113.out, GE137.out]))))
       replace HO127 := aM (Kd.R_elder' (by with_reducible apply_rules [HO127.out, rA, rB, rC]) (Kd.R_base ho0) hb)
       replace HO131 := aM (Kd.R_elder' (by with_reducible apply_rules [HO131.out, rA, rB, rC]) (Kd.R_base ho0) hb)
       replace B12 := aM (bD (g := gb112) (o := .cells #[.int .i64 a0_0, .slice A0_1 l0_1.length c0_1] 25 (0, 0)) (by with_reducible apply_rules [B12.out, bA, bB, bC]) hb)
       replace B13 := aM (bD (g := gb113) (o := .cells #[.int .i64 a1_0, .slice A1_1 l1_1.length c1_1] 25 (0, 0)) (by with_reducible apply_rules [B13.out, bA, bB, bC]) hb)
       replace B37 := aM (bD (g := gb137) (o := .cells #[.int .i64 0, .slice none 0 0] 25 (0, 0)) (by with_reducible apply_rules [B37.out, bA, bB, bC]) hb)
       replace HB := aM (pS_ (by (with_reducible apply_rules [HB.out, pA, pD, pE, sT, GE112.out, GE113.out, GE137.out])) hb)
       (try clear hb)
       (try clear hb2)
       (try clear hk)
       (try clear hi)
       (try clear ho0)
       refine hK.out _ _ ⟨(bE B12.out 0).trans rfl, (bE B12.out 1).trans rfl, (bE B13.out 0).trans rfl, (bE B13.out 1).trans rfl⟩ (fun hHeld => ?_)
       clear hK K
       refine norm_ (a' := ?_) ?_ ?_
       rotate_left
       ·show Act.put _ (some 57) _ = _
        simp only [Act.put, pSj2, i64_w]
        rfl
       refine pure_ (i := 5) (N := some 52) (v := ?_) (a' := ?_) z57j2 rfl rfl (any_of HT_.out (by kernel_rfl)) (fun _ _ _ h => h) (Or.inl ⟨by rfl, ?_⟩) ?_ ?_; rotate_left; (intro w'; go_simp; with_reducible rfl); rotate_left; (simp only [Act.put, pSj2, i64_w]; rfl)
       refine pure_ (i := 6) (N := some 58) (v := ?_) (a' := ?_) z58j2 rfl rfl (any_of HT_.out (by kernel_rfl)) (fun _ _ _ h => h) (Or.inl ⟨by rfl, ?_⟩) ?_ ?_; rotate_left; (intro w'; go_simp; with_reducible rfl); rotate_left; (simp only [Act.put, pSj2, i64_w]; rfl)
       refine pure_ (i := 7) (N := some 59) (v := ?_) (a' := ?_) z46j2 rfl rfl (any_of HT_.out (by kernel_rfl)) (fun _ _ _ h => h) (Or.inl ⟨by rfl, ?_⟩) ?_ ?_; rotate_left; (intro w'; go_simp; with_reducible rfl); rotate_left; (simp only [Act.put, pSj2, i64_w]; rfl)
       exact norm_ (by simp only [putAll, Act.put, pSj2]) (hCont (.slice Ao66 t125.length co66, .slice Ao67 t129.length co67, v134, gb137) _ ⟨hHeld, (by (with_reducible repeat (first | apply rA | apply rB | apply rC)); exact rE HO127.out (fun _ hk => ⟨hk.1.2, hk.2⟩)), (by (with_reducible repeat (first | apply rA | apply rB | apply rC)); exact rE HO131.out (fun _ hk => ⟨hk.1.2, hk.2⟩)), (by (with_reducible repeat (first | apply rA | apply rB | apply rC)); exact rE HO135.out (fun _ hk => ⟨hk.1.2, hk.2⟩)), (by with_reducible apply_rules [B12.out, bA, bB, bC]), (by with_reducible apply_rules [B13.out, bA, bB, bC]), (by with_reducible apply_rules [B37.out, bA, bB, bC]), GW137.out, GE137.out, NB112_137.out, NB137_112.out, NB113_137.out, NB137_113.out, (by (with_reducible apply_rules [HB.out, pA, pD, pE, sT, GE112.out, GE113.out, GE137.out]))⟩)
     ·skip
      refine box_step ?hg (N := 5) ?hd (cs := #[.int .i64 0, .slice none 0 0]) (t := 25) ?hr ?_; (case hd => rfl); (case hg => rfl); (case hr => first | (go_simp; done) | (go_simp; rfl))
      intro gb137 hg w63 hbox hb
      have B37 := aM (hbox)
      have GW137 := aM ((by rw [hg]; exact (below_size (by (with_reducible apply_rules [HB.out, pA, pD, pE, sT, GE112.out, GE113.out]))) : w.heap.size ≤ gb137))
      have GE137 := aM ((by rw [hg]; exact (below_size (by (with_reducible apply_rules [HB.out, pA, pD, pE, sT, GE112.out, GE113.out]))) : w.heap.size ≤ gb137))
      replace HB := aM (pS_ (by (with_reducible apply_rules [HB.out, pA, pD, pE, sT, GE112.out, GE113.out])) hb)
      have NB112_137 := aM ((by rw [hg]; exact Nat.ne_of_lt (blk_lt (g := gb112) (o := .cells #[.int .i64 a0_0, .slice A0_1 l0_1.length c0_1] 25 (0, 0)) (by with_reducible apply_rules [B12.out, bA, bB, bC])) : gb112 ≠ gb137))
      have NB137_112 := aM ((by rw [hg]; exact Nat.ne_of_gt (blk_lt (g := gb112) (o := .cells #[.int .i64 a0_0, .slice A0_1 l0_1.length c0_1] 25 (0, 0)) (by with_reducible apply_rules [B12.out, bA, bB, bC])) : gb137 ≠ gb112))
      replace B12 := aM (bD (g := gb112) (o := .cells #[.int .i64 a0_0, .slice A0_1 l0_1.length c0_1] 25 (0, 0)) (by with_reducible apply_rules [B12.out, bA, bB, bC]) hb)
      have NB113_137 := aM ((by rw [hg]; exact Nat.ne_of_lt (blk_lt (g := gb113) (o := .cells #[.int .i64 a1_0, .slice A1_1 l1_1.length c1_1] 25 (0, 0)) (by with_reducible apply_rules [B13.out, bA, bB, bC])) : gb113 ≠ gb137))
      have NB137_113 := aM ((by rw [hg]; exact Nat.ne_of_gt (blk_lt (g := gb113) (o := .cells #[.int .i64 a1_0, .slice A1_1 l1_1.length c1_1] 25 (0, 0)) (by with_reducible apply_rules [B13.out, bA, bB, bC])) : gb137 ≠ gb113))
      replace B13 := aM (bD (g := gb113) (o := .cells #[.int .i64 a1_0, .slice A1_1 l1_1.length c1_1] 25 (0, 0)) (by with_reducible apply_rules [B13.out, bA, bB, bC]) hb)
      clear hb hbox hg
      refine hK.out _ _ ⟨(bE B12.out 0).trans rfl, (bE B12.out 1).trans rfl, (bE B13.out 0).trans rfl, (bE B13.out 1).trans rfl⟩ (fun hHeld => ?_)
      clear hK K
      refine norm_ (a' := ?_) ?_ ?_
      rotate_left
      ·show Act.put _ (some 5) _ = _
       simp only [Act.put, pSj2, i64_w]
       rfl
      refine one_ (i := 1) (N := some 54) z50j2 rfl rfl (one_of HT_.out (by kernel_rfl)) (by decide) (fun K hK => ?_)
      refine goes_ Tryd.func24 (by kernel_rfl) rfl #[.agg #[.int .i64 a0_0, .slice A0_1 l0_1.length c0_1]] (by rfl) rfl rfl (by (try simp only [List.map_toArray, List.map_cons, List.map_nil]); first | done | rfl | (simp only [List.length_drop, List.length_take]; rfl)) ?_
      with_reducible refine (commodatumlaw12_Copy.calls a0_0 _ _ l0_1 t124 t125 _ ?side1 ?side2 A53.out).mono ?_
      (case side1 => with_reducible apply_rules [(cD HR0_1.out HB.out), cA, cB, cC])
      (case side2 => exact HC0_1.out)
      rintro e w64 ⟨v126, rfl, ho0, hb⟩
      refine ⟨_, rfl, ?_⟩
      have HO127 := aM (Kd.R_lower ho0 (below_size (by (with_reducible apply_rules [HB.out, pA, pD, pE, sT, GE112.out, GE113.out, GE137.out]))))
      replace B12 := aM (bD (g := gb112) (o := .cells #[.int .i64 a0_0, .slice A0_1 l0_1.length c0_1] 25 (0, 0)) (by with_reducible apply_rules [B12.out, bA, bB, bC]) hb)
      replace B13 := aM (bD (g := gb113) (o := .cells #[.int .i64 a1_0, .slice A1_1 l1_1.length c1_1] 25 (0, 0)) (by with_reducible apply_rules [B13.out, bA, bB, bC]) hb)
      replace B37 := aM (bD (g := gb137) (o := .cells #[.int .i64 0, .slice none 0 0] 25 (0, 0)) (by with_reducible apply_rules [B37.out, bA, bB, bC]) hb)
      replace HB := aM (pS_ (by (with_reducible apply_rules [HB.out, pA, pD, pE, sT, GE112.out, GE113.out, GE137.out])) hb)
      (try clear hb)
      (try clear hb2)
      (try clear hk)
      (try clear hi)
      (try clear ho0)
      refine hK.out _ _ ⟨(bE B12.out 0).trans rfl, (bE B12.out 1).trans rfl, (bE B13.out 0).trans rfl, (bE B13.out 1).trans rfl⟩ (fun hHeld => ?_)
      clear hK K
      refine norm_ (a' := ?_) ?_ ?_
      rotate_left
      ·show Act.put _ (some 54) _ = _
       simp only [Act.put, pSj2, i64_w]
       rfl
      refine one_ (i := 3) (N := some 56) z52j2 rfl rfl (one_of HT_.out (by kernel_rfl)) (by decide) (fun K hK => ?_)
      refine goes_ Tryd.func24 (by kernel_rfl) rfl #[.agg #[.int .i64 a1_0, .slice A1_1 l1_1.length c1_1]] (by rfl) rfl rfl (by (try simp only [List.map_toArray, List.map_cons, List.map_nil]); first | done | rfl | (simp only [List.length_drop, List.length_take]; rfl)) ?_
      with_reducible refine (commodatumlaw12_Copy.calls a1_0 _ _ l1_1 t128 t129 _ ?side1 ?side2 A54.out).mono ?_
      (case side1 => with_reducible apply_rules [(cD HR1_1.out HB.out), cA, cB, cC])
      (case side2 => exact HC1_1.out)
      rintro e w65 ⟨v130, rfl, ho0, hb⟩
      refine ⟨_, rfl, ?_⟩
      have HO131 := aM (Kd.R_lower (Kd.R_new' ho0 (Kd.R_lt (by with_reducible apply_rules [HO127.out, rA, rB, rC]))) (below_size (by (with_reducible apply_rules [HB.out, pA, pD, pE, sT, GE112.out, GE113.out, GE137.out]))))
      replace HO127 := aM (Kd.R_elder' (by with_reducible apply_rules [HO127.out, rA, rB, rC]) (Kd.R_base ho0) hb)
      replace B12 := aM (bD (g := gb112) (o := .cells #[.int .i64 a0_0, .slice A0_1 l0_1.length c0_1] 25 (0, 0)) (by with_reducible apply_rules [B12.out, bA, bB, bC]) hb)
      replace B13 := aM (bD (g := gb113) (o := .cells #[.int .i64 a1_0, .slice A1_1 l1_1.length c1_1] 25 (0, 0)) (by with_reducible apply_rules [B13.out, bA, bB, bC]) hb)
      replace B37 := aM (bD (g := gb137) (o := .cells #[.int .i64 0, .slice none 0 0] 25 (0, 0)) (by with_reducible apply_rules [B37.out, bA, bB, bC]) hb)
      replace HB := aM (pS_ (by (with_reducible apply_rules [HB.out, pA, pD, pE, sT, GE112.out, GE113.out, GE137.out])) hb)
      (try clear hb)
      (try clear hb2)
      (try clear hk)
      (try clear hi)
      (try clear ho0)
      obtain ⟨Ao66, co66, eo66⟩ := Kd.R_slice HO127.out
      (first | subst eo66 | (injection eo66 with f1_ f2_ f3_; have f4_ := f1_.symm; have f5_ := f3_.symm; clear f1_ f2_ f3_; subst f4_; subst f5_))
      obtain ⟨Ao67, co67, eo67⟩ := Kd.R_slice HO131.out
      (first | subst eo67 | (injection eo67 with f1_ f2_ f3_; have f4_ := f1_.symm; have f5_ := f3_.symm; clear f1_ f2_ f3_; subst f4_; subst f5_))
      refine hK.out _ _ ⟨(bE B12.out 0).trans rfl, (bE B12.out 1).trans rfl, (bE B13.out 0).trans rfl, (bE B13.out 1).trans rfl⟩ (fun hHeld => ?_)
      clear hK K
      refine norm_ (a' := ?_) ?_ ?_
      rotate_left
      ·show Act.put _ (some 56) _ = _
       simp only [Act.put, pSj2, i64_w]
       rfl
      refine one_ (i := 4) (N := some 57) z56j2 rfl rfl (one_of HT_.out (by kernel_rfl)) (by decide) (fun K hK => ?_)
      refine goes_ Tryd.func38 (by kernel_rfl) rfl #[.agg #[.int .i64 t124, .slice Ao66 t125.length co66], .agg #[.int .i64 t128, .slice Ao67 t129.length co67]] (by rfl) rfl rfl (by (try simp only [List.map_toArray, List.map_cons, List.map_nil]); first | done | rfl | (simp only [List.length_drop, List.length_take]; rfl)) ?_
      with_reducible refine (undo_Join.calls kj2 t124 (fun k_ => some k_ = (.slice Ao66 t125.length co66 : Value).ownBlock) _ _ t125 t128 (fun k_ => some k_ = (.slice Ao67 t129.length co67 : Value).ownBlock) _ _ t129 t132 t133 t136 _ ?side1 ?side2 A55.out).mono ?_
      (case side1 => exact Kd.R_V (Kd.R_tight rfl (Kd.R_types (Kd.R_types (Kd.R_types (HO127.out) B12.out (by decide)) B13.out (by decide)) B37.out (by decide))))
      (case side2 => exact Kd.R_V (Kd.R_tight rfl (Kd.R_types (Kd.R_types (Kd.R_types (HO131.out) B12.out (by decide)) B13.out (by decide)) B37.out (by decide))))
      rintro e w68 ⟨v134, rfl, ho0, hb⟩
      refine ⟨_, rfl, ?_⟩
      have HO135 := aM (Kd.R_lower (Kd.R_new' (Kd.R_new' (rE (ok' := fun k_ => True) ho0 (fun _ hk_ => trivial)) (Kd.R_lt (by with_reducible apply_rules [HO127.out, rA, rB, rC]))) (Kd.R_lt (by with_reducible apply_rules [HO131.out, rA, rB, rC]))) (below_size (by (with_reducible apply_rules [HB.out, pA, pD, pE, sT, GE112.out, GE113.out, GE137.out]))))
      replace HO127 := aM (Kd.R_elder' (by with_reducible apply_rules [HO127.out, rA, rB, rC]) (Kd.R_base ho0) hb)
      replace HO131 := aM (Kd.R_elder' (by with_reducible apply_rules [HO131.out, rA, rB, rC]) (Kd.R_base ho0) hb)
      replace B12 := aM (bD (g := gb112) (o := .cells #[.int .i64 a0_0, .slice A0_1 l0_1.length c0_1] 25 (0, 0)) (by with_reducible apply_rules [B12.out, bA, bB, bC]) hb)
      replace B13 := aM (bD (g := gb113) (o := .cells #[.int .i64 a1_0, .slice A1_1 l1_1.length c1_1] 25 (0, 0)) (by with_reducible apply_rules [B13.out, bA, bB, bC]) hb)
      replace B37 := aM (bD (g := gb137) (o := .cells #[.int .i64 0, .slice none 0 0] 25 (0, 0)) (by with_reducible apply_rules [B37.out, bA, bB, bC]) hb)
      replace HB := aM (pS_ (by (with_reducible apply_rules [HB.out, pA, pD, pE, sT, GE112.out, GE113.out, GE137.out])) hb)
      (try clear hb)
      (try clear hb2)
      (try clear hk)
      (try clear hi)
      (try clear ho0)
      refine hK.out _ _ ⟨(bE B12.out 0).trans rfl, (bE B12.out 1).trans rfl, (bE B13.out 0).trans rfl, (bE B13.out 1).trans rfl⟩ (fun hHeld => ?_)
      clear hK K
      refine norm_ (a' := ?_) ?_ ?_
      rotate_left
      ·show Act.put _ (some 57) _ = _
       simp only [Act.put, pSj2, i64_w]
       rfl
      refine pure_ (i := 5) (N := some 52) (v := ?_) (a' := ?_) z57j2 rfl rfl (any_of HT_.out (by kernel_rfl)) (fun _ _ _ h => h) (Or.inl ⟨by rfl, ?_⟩) ?_ ?_; rotate_left; (intro w'; go_simp; with_reducible rfl); rotate_left; (simp only [Act.put, pSj2, i64_w]; rfl)
      refine pure_ (i := 6) (N := some 58) (v := ?_) (a' := ?_) z58j2 rfl rfl (any_of HT_.out (by kernel_rfl)) (fun _ _ _ h => h) (Or.inl ⟨by rfl, ?_⟩) ?_ ?_; rotate_left; (intro w'; go_simp; with_reducible rfl); rotate_left; (simp only [Act.put, pSj2, i64_w]; rfl)
      refine pure_ (i := 7) (N := some 59) (v := ?_) (a' := ?_) z46j2 rfl rfl (any_of HT_.out (by kernel_rfl)) (fun _ _ _ h => h) (Or.inl ⟨by rfl, ?_⟩) ?_ ?_; rotate_left; (intro w'; go_simp; with_reducible rfl); rotate_left; (simp only [Act.put, pSj2, i64_w]; rfl)
      exact norm_ (by simp only [putAll, Act.put, pSj2]) (hCont (.slice Ao66 t125.length co66, .slice Ao67 t129.length co67, v134, gb137) _ ⟨hHeld, (by (with_reducible repeat (first | apply rA | apply rB | apply rC)); exact rE HO127.out (fun _ hk => ⟨hk.1.2, hk.2⟩)), (by (with_reducible repeat (first | apply rA | apply rB | apply rC)); exact rE HO131.out (fun _ hk => ⟨hk.1.2, hk.2⟩)), (by (with_reducible repeat (first | apply rA | apply rB | apply rC)); exact rE HO135.out (fun _ hk => ⟨hk.1.2, hk.2⟩)), (by with_reducible apply_rules [B12.out, bA, bB, bC]), (by with_reducible apply_rules [B13.out, bA, bB, bC]), (by with_reducible apply_rules [B37.out, bA, bB, bC]), GW137.out, GE137.out, NB112_137.out, NB137_112.out, NB113_137.out, NB137_113.out, (by (with_reducible apply_rules [HB.out, pA, pD, pE, sT, GE112.out, GE113.out, GE137.out]))⟩)
    rintro ⟨v126, v130, v134, gb137⟩ w69 ⟨hS_, h0_, h1_, h2_, h3_, h4_, h5_, h6_, h7_, h8_, h9_, h10_, h11_, h12_⟩
    have HO127 : Aside0 (Kd.R k67 67 w69 w.heap.size (fun k_ => some k_ ≠ (v130 : Value).ownBlock ∧ some k_ ≠ (v134 : Value).ownBlock) v126 t125) := ⟨h0_⟩
    have HO131 : Aside0 (Kd.R k67 67 w69 w.heap.size (fun k_ => some k_ ≠ (v126 : Value).ownBlock ∧ some k_ ≠ (v134 : Value).ownBlock) v130 t129) := ⟨h1_⟩
    have HO135 : Aside0 (Kd.R k67 67 w69 w.heap.size (fun k_ => some k_ ≠ (v126 : Value).ownBlock ∧ some k_ ≠ (v130 : Value).ownBlock) v134 t133) := ⟨h2_⟩
    replace B12 : Aside0 (w69.heap[gb112]? = some (.cells #[.int .i64 a0_0, .slice A0_1 l0_1.length c0_1] 25 (0, 0))) := ⟨h3_⟩
    replace B13 : Aside0 (w69.heap[gb113]? = some (.cells #[.int .i64 a1_0, .slice A1_1 l1_1.length c1_1] 25 (0, 0))) := ⟨h4_⟩
    have B37 : Aside0 (w69.heap[gb137]? = some (.cells #[.int .i64 0, .slice none 0 0] 25 (0, 0))) := ⟨h5_⟩
    have GW137 : Aside0 (w.heap.size ≤ gb137) := ⟨h6_⟩
    have GE137 : Aside0 (w.heap.size ≤ gb137) := ⟨h7_⟩
    have NB112_137 : Aside0 (gb112 ≠ gb137) := ⟨h8_⟩
    have NB137_112 : Aside0 (gb137 ≠ gb112) := ⟨h9_⟩
    have NB113_137 : Aside0 (gb113 ≠ gb137) := ⟨h10_⟩
    have NB137_113 : Aside0 (gb137 ≠ gb113) := ⟨h11_⟩
    replace HB : Aside0 (Below w.heap.size w w69) := ⟨h12_⟩
    clear h0_ h1_ h2_ h3_ h4_ h5_ h6_ h7_ h8_ h9_ h10_ h11_ h12_
    have hHeld : w69.cell? ⟨gb112, 0, none⟩ = some (.int .i64 a0_0) ∧ w69.cell? ⟨gb112, 1, none⟩ = some (.slice A0_1 l0_1.length c0_1) ∧ w69.cell? ⟨gb113, 0, none⟩ = some (.int .i64 a1_0) ∧ w69.cell? ⟨gb113, 1, none⟩ = some (.slice A1_1 l1_1.length c1_1) := hS_
    obtain ⟨Ao71, co71, eo71⟩ := Kd.R_slice HO135.out
    (first | subst eo71 | (injection eo71 with f1_ f2_ f3_; have f4_ := f1_.symm; have f5_ := f3_.symm; clear f1_ f2_ f3_; subst f4_; subst f5_))
    refine norm_ (a' := ?_) ?_ ?_
    rotate_left
    ·simp only [putAll, Act.put, pSj2]
     rfl
    refine one_ (i := 9) (N := none) z59j2 rfl rfl (one_of HT_.out (by kernel_rfl)) (by decide) (fun K hK => ?_)
    have hs70 : w69.cell? ⟨gb137, 0, none⟩ = some (.int .i64 0) := (bE B37.out 0).trans rfl
    have hfs70 := bF B37.out 0
    have hns70_0 := NB112_137.out
    have hns70_1 := NB113_137.out
    have hms70_0 := NB137_112.out
    have hms70_1 := NB137_113.out
    have hs72 : w69.cell? ⟨gb137, 1, none⟩ = some (.slice none 0 0) := (bE B37.out 1).trans rfl
    have hfs72 := bF B37.out 1
    have hns72_0 := NB112_137.out
    have hns72_1 := NB113_137.out
    have hms72_0 := NB137_112.out
    have hms72_1 := NB137_113.out
    refine skip_ (w1 := ?_) (by rfl) rfl ?_ ?_
    rotate_left
    ·go_simp
     rfl
    refine hK.out _ _ ⟨((cell_far (p := ⟨gb137, _, none⟩) NB112_137.out _).trans (((cell_far (p := ⟨gb137, _, none⟩) NB112_137.out _).trans (hHeld.1)))), ((cell_far (p := ⟨gb137, _, none⟩) NB112_137.out _).trans (((cell_far (p := ⟨gb137, _, none⟩) NB112_137.out _).trans (hHeld.2.1)))), ((cell_far (p := ⟨gb137, _, none⟩) NB113_137.out _).trans (((cell_far (p := ⟨gb137, _, none⟩) NB113_137.out _).trans (hHeld.2.2.1)))), ((cell_far (p := ⟨gb137, _, none⟩) NB113_137.out _).trans (((cell_far (p := ⟨gb137, _, none⟩) NB113_137.out _).trans (hHeld.2.2.2))))⟩ (fun hHeld => ?_)
    clear hK K
    refine pure_ (i := 10) (N := some 6) (v := ?_) (a' := ?_) z60j2 rfl rfl (any_of HT_.out (by kernel_rfl)) (fun _ _ _ h => h) (Or.inl ⟨by rfl, ?_⟩) ?_ ?_; rotate_left; (intro w'; go_simp; with_reducible rfl); rotate_left; (simp only [Act.put, pSj2, i64_w]; rfl)
    refine done_ (done_of HT_.out (by kernel_rfl)) ?_
    have hnb73 := NB112_113.out
    have hnc73 := NB113_112.out
    have hnb74 := NB112_137.out
    have hnc74 := NB137_112.out
    have hcz75_0 : w69.cell? ⟨gb112, 0, none⟩ = some (.int .i64 a0_0) := (bE B12.out 0).trans rfl
    have hcz75_1 : w69.cell? ⟨gb112, 1, none⟩ = some (.slice A0_1 l0_1.length c0_1) := (bE B12.out 1).trans rfl
    have hfz75_0 := bF B12.out 0
    have hfz75_1 := bF B12.out 1
    go_upto_region 7 with (first | ((with_reducible refine gate_callee (f := 24) rfl ?_); refine goesL_ (some 62) rfl rfl Tryd.func24 (by kernel_rfl) rfl #[.agg #[.int .i64 a0_0, .slice A0_1 l0_1.length c0_1]] rfl (by (try simp only [List.map_toArray, List.map_cons, List.map_nil]); first | done | rfl | (simp only [List.length_drop, List.length_take]; rfl)) ?_; (with_reducible refine (commodatumlaw12_Copy.calls a0_0 _ _ l0_1 t138 t139 _ ?side1 ?side2 A56.out).mono ?_); (case side1 => exact cD HR0_1.out (by (with_reducible apply_rules [HB.out, pA, pD, pE, sT, GE112.out, GE113.out, GE137.out]))); (case side2 => exact HC0_1.out); rintro e w76 ⟨v140, rfl, ho0, hb⟩; refine ⟨_, rfl, ?_⟩; have HO141 := aM (Kd.R_lower (Kd.R_new' (Kd.R_new' (Kd.R_new' ho0 (Kd.R_lt (by (with_reducible repeat (first | apply rA | apply rB | apply rC)); exact (rE (Kd.R_far (p := ⟨gb137, 1, none⟩) (Kd.R_far (p := ⟨gb137, 0, none⟩) (Kd.R_types HO127.out B37.out (by decide)) (fun _ hk => hk.2) (.int .i64 t132)) (fun _ hk => hk.2) (.slice Ao71 t133.length co71)) (fun _ h_ => h_.1))))) (Kd.R_lt (by (with_reducible repeat (first | apply rA | apply rB | apply rC)); exact (rE (Kd.R_far (p := ⟨gb137, 1, none⟩) (Kd.R_far (p := ⟨gb137, 0, none⟩) (Kd.R_types HO131.out B37.out (by decide)) (fun _ hk => hk.2) (.int .i64 t132)) (fun _ hk => hk.2) (.slice Ao71 t133.length co71)) (fun _ h_ => h_.1))))) (Kd.R_lt (by (with_reducible repeat (first | apply rA | apply rB | apply rC)); exact (rE (Kd.R_far (p := ⟨gb137, 1, none⟩) (Kd.R_far (p := ⟨gb137, 0, none⟩) (Kd.R_types HO135.out B37.out (by decide)) (fun _ hk => hk.2) (.int .i64 t132)) (fun _ hk => hk.2) (.slice Ao71 t133.length co71)) (fun _ h_ => h_.1))))) (below_size (by (with_reducible apply_rules [HB.out, pA, pD, pE, sT, GE112.out, GE113.out, GE137.out])))); replace HO127 := aM (Kd.R_elder' (by (with_reducible repeat (first | apply rA | apply rB | apply rC)); exact (rE (Kd.R_far (p := ⟨gb137, 1, none⟩) (Kd.R_far (p := ⟨gb137, 0, none⟩) (Kd.R_types HO127.out B37.out (by decide)) (fun _ hk => hk.2) (.int .i64 t132)) (fun _ hk => hk.2) (.slice Ao71 t133.length co71)) (fun _ h_ => h_.1))) (Kd.R_base ho0) hb); replace HO131 := aM (Kd.R_elder' (by (with_reducible repeat (first | apply rA | apply rB | apply rC)); exact (rE (Kd.R_far (p := ⟨gb137, 1, none⟩) (Kd.R_far (p := ⟨gb137, 0, none⟩) (Kd.R_types HO131.out B37.out (by decide)) (fun _ hk => hk.2) (.int .i64 t132)) (fun _ hk => hk.2) (.slice Ao71 t133.length co71)) (fun _ h_ => h_.1))) (Kd.R_base ho0) hb); replace HO135 := aM (Kd.R_elder' (by (with_reducible repeat (first | apply rA | apply rB | apply rC)); exact (rE (Kd.R_far (p := ⟨gb137, 1, none⟩) (Kd.R_far (p := ⟨gb137, 0, none⟩) (Kd.R_types HO135.out B37.out (by decide)) (fun _ hk => hk.2) (.int .i64 t132)) (fun _ hk => hk.2) (.slice Ao71 t133.length co71)) (fun _ h_ => h_.1))) (Kd.R_base ho0) hb); replace B12 := aM (bD (g := gb112) (o := .cells #[.int .i64 a0_0, .slice A0_1 l0_1.length c0_1] 25 (0, 0)) (by (with_reducible repeat (first | refine bA ?_ _ | refine bB ?_ | refine bC ?_ _)); refine blk_far ?_ NB112_137.out _; (with_reducible repeat (first | refine bA ?_ _ | refine bB ?_ | refine bC ?_ _)); refine blk_far ?_ NB112_137.out _; with_reducible apply_rules [B12.out, bA, bB, bC]) hb); replace B13 := aM (bD (g := gb113) (o := .cells #[.int .i64 a1_0, .slice A1_1 l1_1.length c1_1] 25 (0, 0)) (by (with_reducible repeat (first | refine bA ?_ _ | refine bB ?_ | refine bC ?_ _)); refine blk_far ?_ NB113_137.out _; (with_reducible repeat (first | refine bA ?_ _ | refine bB ?_ | refine bC ?_ _)); refine blk_far ?_ NB113_137.out _; with_reducible apply_rules [B13.out, bA, bB, bC]) hb); replace B37 := aM (bD (g := gb137) (o := .cells #[.int .i64 t132, .slice Ao71 t133.length co71] 25 (0, 0)) (by (with_reducible repeat (first | refine bA ?_ _ | refine bB ?_ | refine bC ?_ _)); refine blk_put (cs := #[.int .i64 t132, .slice none 0 0]) ?_ 1 _ rfl; (with_reducible repeat (first | refine bA ?_ _ | refine bB ?_ | refine bC ?_ _)); refine blk_put (cs := #[.int .i64 0, .slice none 0 0]) ?_ 0 _ rfl; with_reducible apply_rules [B37.out, bA, bB, bC]) hb); replace HB := aM (pS_ (by (with_reducible apply_rules [HB.out, pA, pD, pE, sT, GE112.out, GE113.out, GE137.out])) hb); (try clear hb); (try clear hb2); (try clear hk); (try clear hi); (try clear ho0); obtain ⟨Ao77, co77, eo77⟩ := Kd.R_slice HO141.out; subst eo77) | ((with_reducible refine gate_callee (f := 34) rfl ?_); refine goesL_ (some 63) rfl rfl Tryd.func34 (by kernel_rfl) rfl #[.agg #[.int .i64 t138, .slice Ao77 t139.length co77]] rfl (by (try simp only [List.map_toArray, List.map_cons, List.map_nil]); first | done | rfl | (simp only [List.length_drop, List.length_take]; rfl)) ?_; (with_reducible refine (undo_Permutation.calls kj2 t138 _ _ t139 t142 t145 _ ?side1 ?side2 A57.out).mono ?_); (case side1 => repeat (first | exact (Kd.R_reads' HO141.out).2.2 | (with_reducible refine cA ?_ _) | (with_reducible refine cB ?_ _) | (with_reducible refine cC ?_))); (case side2 => exact (Kd.R_reads' HO141.out).2.1); rintro e w78 ⟨v143, rfl, ho0, hb⟩; refine ⟨_, rfl, ?_⟩; replace HO127 := aM (rD (by with_reducible apply_rules [HO127.out, rA, rB, rC]) hb); replace HO131 := aM (rD (by with_reducible apply_rules [HO131.out, rA, rB, rC]) hb); replace HO135 := aM (rD (by with_reducible apply_rules [HO135.out, rA, rB, rC]) hb); replace HO141 := aM (rD (by with_reducible apply_rules [HO141.out, rA, rB, rC]) hb); have HO144 := aM (Kd.R_lower ho0 (below_size (by (with_reducible apply_rules [HB.out, pA, pD, pE, sT, GE112.out, GE113.out, GE137.out])))); replace B12 := aM (bD (g := gb112) (o := .cells #[.int .i64 a0_0, .slice A0_1 l0_1.length c0_1] 25 (0, 0)) (by with_reducible apply_rules [B12.out, bA, bB, bC]) hb); replace B13 := aM (bD (g := gb113) (o := .cells #[.int .i64 a1_0, .slice A1_1 l1_1.length c1_1] 25 (0, 0)) (by with_reducible apply_rules [B13.out, bA, bB, bC]) hb); replace B37 := aM (bD (g := gb137) (o := .cells #[.int .i64 t132, .slice Ao71 t133.length co71] 25 (0, 0)) (by with_reducible apply_rules [B37.out, bA, bB, bC]) hb); replace HB := aM (pS_ (by (with_reducible apply_rules [HB.out, pA, pD, pE, sT, GE112.out, GE113.out, GE137.out])) hb); (try clear hb); (try clear hb2); (try clear hk); (try clear hi); (try clear ho0); have hnb79 := NB113_137.out; have hnc79 := NB137_113.out; have hcz80_0 : w78.cell? ⟨gb113, 0, none⟩ = some (.int .i64 a1_0) := (bE B13.out 0).trans rfl; have hcz80_1 : w78.cell? ⟨gb113, 1, none⟩ = some (.slice A1_1 l1_1.length c1_1) := (bE B13.out 1).trans rfl; have hfz80_0 := bF B13.out 0; have hfz80_1 := bF B13.out 1) | ((with_reducible refine gate_callee (f := 24) rfl ?_); refine goesL_ (some 68) rfl rfl Tryd.func24 (by kernel_rfl) rfl #[.agg #[.int .i64 a1_0, .slice A1_1 l1_1.length c1_1]] rfl (by (try simp only [List.map_toArray, List.map_cons, List.map_nil]); first | done | rfl | (simp only [List.length_drop, List.length_take]; rfl)) ?_; (with_reducible refine (commodatumlaw12_Copy.calls a1_0 _ _ l1_1 t146 t147 _ ?side1 ?side2 A58.out).mono ?_); (case side1 => with_reducible apply_rules [(cD HR1_1.out HB.out), cA, cB, cC]); (case side2 => exact HC1_1.out); rintro e w81 ⟨v148, rfl, ho0, hb⟩; refine ⟨_, rfl, ?_⟩; replace HO144 := aM (rD (by with_reducible apply_rules [HO144.out, rA, rB, rC]) hb); have HO149 := aM (Kd.R_lower (Kd.R_new' (Kd.R_new' (Kd.R_new' (Kd.R_new' ho0 (Kd.R_lt (by with_reducible apply_rules [HO127.out, rA, rB, rC]))) (Kd.R_lt (by with_reducible apply_rules [HO131.out, rA, rB, rC]))) (Kd.R_lt (by with_reducible apply_rules [HO135.out, rA, rB, rC]))) (Kd.R_lt (by with_reducible apply_rules [HO141.out, rA, rB, rC]))) (below_size (by (with_reducible apply_rules [HB.out, pA, pD, pE, sT, GE112.out, GE113.out, GE137.out])))); replace HO127 := aM (Kd.R_elder' (by with_reducible apply_rules [HO127.out, rA, rB, rC]) (Kd.R_base ho0) hb); replace HO131 := aM (Kd.R_elder' (by with_reducible apply_rules [HO131.out, rA, rB, rC]) (Kd.R_base ho0) hb); replace HO135 := aM (Kd.R_elder' (by with_reducible apply_rules [HO135.out, rA, rB, rC]) (Kd.R_base ho0) hb); replace HO141 := aM (Kd.R_elder' (by with_reducible apply_rules [HO141.out, rA, rB, rC]) (Kd.R_base ho0) hb); replace B12 := aM (bD (g := gb112) (o := .cells #[.int .i64 a0_0, .slice A0_1 l0_1.length c0_1] 25 (0, 0)) (by with_reducible apply_rules [B12.out, bA, bB, bC]) hb); replace B13 := aM (bD (g := gb113) (o := .cells #[.int .i64 a1_0, .slice A1_1 l1_1.length c1_1] 25 (0, 0)) (by with_reducible apply_rules [B13.out, bA, bB, bC]) hb); replace B37 := aM (bD (g := gb137) (o := .cells #[.int .i64 t132, .slice Ao71 t133.length co71] 25 (0, 0)) (by with_reducible apply_rules [B37.out, bA, bB, bC]) hb); replace HB := aM (pS_ (by (with_reducible apply_rules [HB.out, pA, pD, pE, sT, GE112.out, GE113.out, GE137.out])) hb); (try clear hb); (try clear hb2); (try clear hk); (try clear hi); (try clear ho0); obtain ⟨Ao82, co82, eo82⟩ := Kd.R_slice HO149.out; subst eo82) | ((with_reducible refine gate_callee (f := 34) rfl ?_); refine goesL_ (some 69) rfl rfl Tryd.func34 (by kernel_rfl) rfl #[.agg #[.int .i64 t146, .slice Ao82 t147.length co82]] rfl (by (try simp only [List.map_toArray, List.map_cons, List.map_nil]); first | done | rfl | (simp only [List.length_drop, List.length_take]; rfl)) ?_; (with_reducible refine (undo_Permutation.calls kj2 t146 _ _ t147 t150 t153 _ ?side1 ?side2 A59.out).mono ?_); (case side1 => repeat (first | exact (Kd.R_reads' HO149.out).2.2 | (with_reducible refine cA ?_ _) | (with_reducible refine cB ?_ _) | (with_reducible refine cC ?_))); (case side2 => exact (Kd.R_reads' HO149.out).2.1); rintro e w83 ⟨v151, rfl, ho0, hb⟩; refine ⟨_, rfl, ?_⟩; replace HO127 := aM (rD (by with_reducible apply_rules [HO127.out, rA, rB, rC]) hb); replace HO131 := aM (rD (by with_reducible apply_rules [HO131.out, rA, rB, rC]) hb); replace HO135 := aM (rD (by with_reducible apply_rules [HO135.out, rA, rB, rC]) hb); replace HO141 := aM (rD (by with_reducible apply_rules [HO141.out, rA, rB, rC]) hb); replace HO149 := aM (rD (by with_reducible apply_rules [HO149.out, rA, rB, rC]) hb); have HO152 := aM (Kd.R_lower (Kd.R_new' ho0 (Kd.R_lt (by with_reducible apply_rules [HO144.out, rA, rB, rC]))) (below_size (by (with_reducible apply_rules [HB.out, pA, pD, pE, sT, GE112.out, GE113.out, GE137.out])))); replace HO144 := aM (Kd.R_elder' (by with_reducible apply_rules [HO144.out, rA, rB, rC]) (Kd.R_base ho0) hb); replace B12 := aM (bD (g := gb112) (o := .cells #[.int .i64 a0_0, .slice A0_1 l0_1.length c0_1] 25 (0, 0)) (by with_reducible apply_rules [B12.out, bA, bB, bC]) hb); replace B13 := aM (bD (g := gb113) (o := .cells #[.int .i64 a1_0, .slice A1_1 l1_1.length c1_1] 25 (0, 0)) (by with_reducible apply_rules [B13.out, bA, bB, bC]) hb); replace B37 := aM (bD (g := gb137) (o := .cells #[.int .i64 t132, .slice Ao71 t133.length co71] 25 (0, 0)) (by with_reducible apply_rules [B37.out, bA, bB, bC]) hb); replace HB := aM (pS_ (by (with_reducible apply_rules [HB.out, pA, pD, pE, sT, GE112.out, GE113.out, GE137.out])) hb); (try clear hb); (try clear hb2); (try clear hk); (try clear hi); (try clear ho0); have hcz84_0 : w83.cell? ⟨gb137, 0, none⟩ = some (.int .i64 t132) := (bE B37.out 0).trans rfl; have hcz84_1 : w83.cell? ⟨gb137, 1, none⟩ = some (.slice Ao71 t133.length co71) := (bE B37.out 1).trans rfl; have hfz84_0 := bF B37.out 0; have hfz84_1 := bF B37.out 1) | ((with_reducible refine gate_callee (f := 34) rfl ?_); refine goesL_ (some 74) rfl rfl Tryd.func34 (by kernel_rfl) rfl #[.agg #[.int .i64 t132, .slice Ao71 t133.length co71]] rfl (by (try simp only [List.map_toArray, List.map_cons, List.map_nil]); first | done | rfl | (simp only [List.length_drop, List.length_take]; rfl)) ?_; (with_reducible refine (undo_Permutation.calls kj2 t132 _ _ t133 t154 t157 _ ?side1 ?side2 A60.out).mono ?_); (case side1 => repeat (first | exact (Kd.R_reads' HO135.out).2.2 | (with_reducible refine cA ?_ _) | (with_reducible refine cB ?_ _) | (with_reducible refine cC ?_))); (case side2 => exact (Kd.R_reads' HO135.out).2.1); rintro e w85 ⟨v155, rfl, ho0, hb⟩; refine ⟨_, rfl, ?_⟩; replace HO127 := aM (rD (by with_reducible apply_rules [HO127.out, rA, rB, rC]) hb); replace HO131 := aM (rD (by with_reducible apply_rules [HO131.out, rA, rB, rC]) hb); replace HO135 := aM (rD (by with_reducible apply_rules [HO135.out, rA, rB, rC]) hb); replace HO141 := aM (rD (by with_reducible apply_rules [HO141.out, rA, rB, rC]) hb); replace HO149 := aM (rD (by with_reducible apply_rules [HO149.out, rA, rB, rC]) hb); have HO156 := aM (Kd.R_lower (Kd.R_new' (Kd.R_new' ho0 (Kd.R_lt (by with_reducible apply_rules [HO144.out, rA, rB, rC]))) (Kd.R_lt (by with_reducible apply_rules [HO152.out, rA, rB, rC]))) (below_size (by (with_reducible apply_rules [HB.out, pA, pD, pE, sT, GE112.out, GE113.out, GE137.out])))); replace HO144 := aM (Kd.R_elder' (by with_reducible apply_rules [HO144.out, rA, rB, rC]) (Kd.R_base ho0) hb); replace HO152 := aM (Kd.R_elder' (by with_reducible apply_rules [HO152.out, rA, rB, rC]) (Kd.R_base ho0) hb); replace B12 := aM (bD (g := gb112) (o := .cells #[.int .i64 a0_0, .slice A0_1 l0_1.length c0_1] 25 (0, 0)) (by with_reducible apply_rules [B12.out, bA, bB, bC]) hb); replace B13 := aM (bD (g := gb113) (o := .cells #[.int .i64 a1_0, .slice A1_1 l1_1.length c1_1] 25 (0, 0)) (by with_reducible apply_rules [B13.out, bA, bB, bC]) hb); replace B37 := aM (bD (g := gb137) (o := .cells #[.int .i64 t132, .slice Ao71 t133.length co71] 25 (0, 0)) (by with_reducible apply_rules [B37.out, bA, bB, bC]) hb); replace HB := aM (pS_ (by (with_reducible apply_rules [HB.out, pA, pD, pE, sT, GE112.out, GE113.out, GE137.out])) hb); (try clear hb); (try clear hb2); (try clear hk); (try clear hi); (try clear ho0)))
    (try simp only [Act.put, List.setIfInBounds_toArray, List.set_cons_zero, List.set_cons_succ])
    go_cut [112] (fun v112 wc => ∃ (kq : Nat) (x112_60 : Bool), v112 = .bool x112_60 ∧ Aside0 (commodatumlaw12_UndoJoined.j1 kq t142 t150 t154 x112_60 = some r) ∧ Aside0 (kq ≤ kj2) ∧ Aside0 (Kd.R (Kd.int .i64) 3 wc w.heap.size (fun k_ => some k_ ≠ (v151 : Value).ownBlock ∧ some k_ ≠ (v155 : Value).ownBlock) v143 t142) ∧ Aside0 (Kd.R (Kd.int .i64) 3 wc w.heap.size (fun k_ => some k_ ≠ (v143 : Value).ownBlock ∧ some k_ ≠ (v155 : Value).ownBlock) v151 t150) ∧ Aside0 (Kd.R (Kd.int .i64) 3 wc w.heap.size (fun k_ => some k_ ≠ (v143 : Value).ownBlock ∧ some k_ ≠ (v151 : Value).ownBlock) v155 t154) ∧ Aside0 (Kd.R k67 67 wc w.heap.size (fun _ => True) (.slice Ao71 t133.length co71) t133) ∧ Aside0 (wc.heap[gb112]? = some (.cells #[.int .i64 a0_0, (.slice A0_1 l0_1.length c0_1)] 25 (0, 0))) ∧ Aside0 (wc.heap[gb113]? = some (.cells #[.int .i64 a1_0, (.slice A1_1 l1_1.length c1_1)] 25 (0, 0))) ∧ Aside0 (wc.heap[gb137]? = some (.cells #[.int .i64 t132, (.slice Ao71 t133.length co71)] 25 (0, 0))) ∧ Aside0 (Below w.heap.size w wc))
    case first =>
     have H := HC61.out
     clear HC61
     by_cases c86 : t136 = 0
     ·rw [if_pos c86] at H
      have c86b0 : (t136 == 0) = true := beq_iff_eq.mpr c86
      have c86b1 : (t136 != 0) = false := bne_eq_false_iff_eq.mpr c86
      clear c86
      (first | rw [c86b0] | (simp only [i64_w, i32_w]; rw [c86b0]) | skip)
      by_cases c87 : t145 = 0
      ·rw [if_pos c87] at H
       have c87b0 : (t145 == 0) = true := beq_iff_eq.mpr c87
       have c87b1 : (t145 != 0) = false := bne_eq_false_iff_eq.mpr c87
       clear c87
       by_cases c88 : t153 = 0
       ·rw [if_pos c88] at H
        have c88b0 : (t153 == 0) = true := beq_iff_eq.mpr c88
        have c88b1 : (t153 != 0) = false := bne_eq_false_iff_eq.mpr c88
        clear c88
        by_cases c89 : t157 = 0
        ·rw [if_pos c89] at H
         have c89b0 : (t157 == 0) = true := beq_iff_eq.mpr c89
         have c89b1 : (t157 != 0) = false := bne_eq_false_iff_eq.mpr c89
         clear c89
         by_cases c90 : 0 ≤ a0_0
         ·rw [if_pos c90] at H
          have c90b0 := eq_true c90
          have c90b1 : decide (0 ≤ a0_0) = true := decide_eq_true c90
          clear c90
          obtain ⟨ji91, hji91⟩ : ∃ j_ : Int, (shl .i64 1 a0_0) = j_ := ⟨_, rfl⟩
          replace H : (if (t142.length : Int) = (ji91) then (if (t150.length : Int) = (t142.length : Int) then (commodatumlaw12_UndoJoined.j1 kj2 t142 t150 t154 ((t154.length : Int) != (t142.length : Int))) else (commodatumlaw12_UndoJoined.j1 kj2 t142 t150 t154 true)) else (commodatumlaw12_UndoJoined.j1 kj2 t142 t150 t154 true)) = some r := by first | (rw [hji91] at H; exact H) | (simp only [hji91] at H ⊢; exact H)
          have hji91_ : (IntKind.i64.wrap (1 * 2 ^ min a0_0.toNat 64)) = ji91 := hji91
          have hji91z : a0_0 ≤ 64 → (IntKind.i64.wrap (1 * 2 ^ a0_0.toNat)) = ji91 := shl_small hji91
          have hji91u : (IntKind.i64.wrap (2 ^ min a0_0.toNat 64)) = ji91 := by have h_ := hji91_; rw [Int.one_mul] at h_; exact h_
          have hji91v : a0_0 ≤ 64 → (IntKind.i64.wrap (2 ^ a0_0.toNat)) = ji91 := fun hle_ => by have h_ := hji91z hle_; rw [Int.one_mul] at h_; exact h_
          have hji91y : (wrap64 (1 * 2 ^ min a0_0.toNat 64)) = ji91 := (i64_w _).symm.trans hji91_
          have hji91x : a0_0 ≤ 64 → (wrap64 (1 * 2 ^ a0_0.toNat)) = ji91 := fun h_ => (i64_w _).symm.trans (hji91z h_)
          by_cases c92 : (t142.length : Int) = (ji91)
          ·rw [if_pos c92] at H
           have c92b0 : ((t142.length : Int) == (ji91)) = true := beq_iff_eq.mpr c92
           have c92b1 : ((t142.length : Int) != (ji91)) = false := bne_eq_false_iff_eq.mpr c92
           clear c92
           by_cases c93 : (t150.length : Int) = (t142.length : Int)
           ·rw [if_pos c93] at H
            have c93b0 : ((t150.length : Int) == (t142.length : Int)) = true := beq_iff_eq.mpr c93
            have c93b1 : ((t150.length : Int) != (t142.length : Int)) = false := bne_eq_false_iff_eq.mpr c93
            have c93b2 : (t150.length == t142.length) = true := by first | simpa using c93 | (simp at c93 ⊢; omega)
            clear c93
            have H' := aM H
            clear H
            obtain ⟨Ao94, co94, eo94⟩ := Kd.R_slice HO144.out
            subst eo94
            have hnb95 := NB112_113.out
            have hnc95 := NB113_112.out
            have hnb96 := NB112_137.out
            have hnc96 := NB137_112.out
            have hcz97_0 : w85.cell? ⟨gb112, 0, none⟩ = some (.int .i64 a0_0) := (bE B12.out 0).trans rfl
            have hcz97_1 : w85.cell? ⟨gb112, 1, none⟩ = some (.slice A0_1 l0_1.length c0_1) := (bE B12.out 1).trans rfl
            have hfz97_0 := bF B12.out 0
            have hfz97_1 := bF B12.out 1
            obtain ⟨Ao98, co98, eo98⟩ := Kd.R_slice HO152.out
            subst eo98
            obtain ⟨Ao99, co99, eo99⟩ := Kd.R_slice HO156.out
            subst eo99
            go_wp2
            go_meet
            case rel => exact ⟨_, (((t154.length : Int) != (t142.length : Int))), (by first | rfl | (simp; done) | (simp [*]; done)), H', ⟨by have := HJ2.out; first | omega | exact Nat.le_refl _⟩, ⟨by (with_reducible repeat (first | apply rA | apply rB | apply rC)); exact rE HO144.out (fun _ hk => ⟨hk.1.2, hk.2⟩)⟩, ⟨by (with_reducible repeat (first | apply rA | apply rB | apply rC)); exact rE HO152.out (fun _ hk => ⟨hk.1.2, hk.2⟩)⟩, ⟨by (with_reducible repeat (first | apply rA | apply rB | apply rC)); exact rE HO156.out (fun _ hk => ⟨hk.1.2, hk.2⟩)⟩, ⟨by (with_reducible repeat (first | apply rA | apply rB | apply rC)); exact rE HO135.out (fun _ hk => trivial)⟩, ⟨by with_reducible apply_rules [B12.out, bA, bB, bC]⟩, ⟨by with_reducible apply_rules [B13.out, bA, bB, bC]⟩, ⟨by with_reducible apply_rules [B37.out, bA, bB, bC]⟩, ⟨by (with_reducible apply_rules [HB.out, pA, pD, pE, sT, GE112.out, GE113.out, GE137.out])⟩⟩
           ·rw [if_neg c93] at H
            have c93b0 : ((t150.length : Int) == (t142.length : Int)) = false := beq_eq_false_iff_ne.mpr c93
            have c93b1 : ((t150.length : Int) != (t142.length : Int)) = true := bne_iff_ne.mpr c93
            have c93b2 : (t150.length == t142.length) = false := by first | simpa using c93 | (simp at c93 ⊢; omega)
            have H' := aM H
            clear H
            obtain ⟨Ao100, co100, eo100⟩ := Kd.R_slice HO144.out
            subst eo100
            have hnb101 := NB112_113.out
            have hnc101 := NB113_112.out
            have hnb102 := NB112_137.out
            have hnc102 := NB137_112.out
            have hcz103_0 : w85.cell? ⟨gb112, 0, none⟩ = some (.int .i64 a0_0) := (bE B12.out 0).trans rfl
            have hcz103_1 : w85.cell? ⟨gb112, 1, none⟩ = some (.slice A0_1 l0_1.length c0_1) := (bE B12.out 1).trans rfl
            have hfz103_0 := bF B12.out 0
            have hfz103_1 := bF B12.out 1
            obtain ⟨Ao104, co104, eo104⟩ := Kd.R_slice HO152.out
            subst eo104
            go_wp2
            go_meet
            case rel => exact ⟨_, (true), (by first | rfl | (simp; done) | (simp [*]; done)), H', ⟨by have := HJ2.out; first | omega | exact Nat.le_refl _⟩, ⟨by (with_reducible repeat (first | apply rA | apply rB | apply rC)); exact rE HO144.out (fun _ hk => ⟨hk.1.2, hk.2⟩)⟩, ⟨by (with_reducible repeat (first | apply rA | apply rB | apply rC)); exact rE HO152.out (fun _ hk => ⟨hk.1.2, hk.2⟩)⟩, ⟨by (with_reducible repeat (first | apply rA | apply rB | apply rC)); exact rE HO156.out (fun _ hk => ⟨hk.1.2, hk.2⟩)⟩, ⟨by (with_reducible repeat (first | apply rA | apply rB | apply rC)); exact rE HO135.out (fun _ hk => trivial)⟩, ⟨by with_reducible apply_rules [B12.out, bA, bB, bC]⟩, ⟨by with_reducible apply_rules [B13.out, bA, bB, bC]⟩, ⟨by with_reducible apply_rules [B37.out, bA, bB, bC]⟩, ⟨by (with_reducible apply_rules [HB.out, pA, pD, pE, sT, GE112.out, GE113.out, GE137.out])⟩⟩
          ·rw [if_neg c92] at H
           have c92b0 : ((t142.length : Int) == (ji91)) = false := beq_eq_false_iff_ne.mpr c92
           have c92b1 : ((t142.length : Int) != (ji91)) = true := bne_iff_ne.mpr c92
           have H' := aM H
           clear H
           obtain ⟨Ao105, co105, eo105⟩ := Kd.R_slice HO144.out
           subst eo105
           have hnb106 := NB112_113.out
           have hnc106 := NB113_112.out
           have hnb107 := NB112_137.out
           have hnc107 := NB137_112.out
           have hcz108_0 : w85.cell? ⟨gb112, 0, none⟩ = some (.int .i64 a0_0) := (bE B12.out 0).trans rfl
           have hcz108_1 : w85.cell? ⟨gb112, 1, none⟩ = some (.slice A0_1 l0_1.length c0_1) := (bE B12.out 1).trans rfl
           have hfz108_0 := bF B12.out 0
           have hfz108_1 := bF B12.out 1
           go_wp2
           go_meet
           case rel => exact ⟨_, (true), (by first | rfl | (simp; done) | (simp [*]; done)), H', ⟨by have := HJ2.out; first | omega | exact Nat.le_refl _⟩, ⟨by (with_reducible repeat (first | apply rA | apply rB | apply rC)); exact rE HO144.out (fun _ hk => ⟨hk.1.2, hk.2⟩)⟩, ⟨by (with_reducible repeat (first | apply rA | apply rB | apply rC)); exact rE HO152.out (fun _ hk => ⟨hk.1.2, hk.2⟩)⟩, ⟨by (with_reducible repeat (first | apply rA | apply rB | apply rC)); exact rE HO156.out (fun _ hk => ⟨hk.1.2, hk.2⟩)⟩, ⟨by (with_reducible repeat (first | apply rA | apply rB | apply rC)); exact rE HO135.out (fun _ hk => trivial)⟩, ⟨by with_reducible apply_rules [B12.out, bA, bB, bC]⟩, ⟨by with_reducible apply_rules [B13.out, bA, bB, bC]⟩, ⟨by with_reducible apply_rules [B37.out, bA, bB, bC]⟩, ⟨by (with_reducible apply_rules [HB.out, pA, pD, pE, sT, GE112.out, GE113.out, GE137.out])⟩⟩
         ·rw [if_neg c90] at H
          exact absurd H (by simp)
        ·rw [if_neg c89] at H
         have c89b0 : (t157 == 0) = false := beq_eq_false_iff_ne.mpr c89
         have c89b1 : (t157 != 0) = true := bne_iff_ne.mpr c89
         have H' := aM H
         clear H
         go_wp2
         go_meet
         case rel => exact ⟨_, (true), (by first | rfl | (simp; done) | (simp [*]; done)), H', ⟨by have := HJ2.out; first | omega | exact Nat.le_refl _⟩, ⟨by (with_reducible repeat (first | apply rA | apply rB | apply rC)); exact rE HO144.out (fun _ hk => ⟨hk.1.2, hk.2⟩)⟩, ⟨by (with_reducible repeat (first | apply rA | apply rB | apply rC)); exact rE HO152.out (fun _ hk => ⟨hk.1.2, hk.2⟩)⟩, ⟨by (with_reducible repeat (first | apply rA | apply rB | apply rC)); exact rE HO156.out (fun _ hk => ⟨hk.1.2, hk.2⟩)⟩, ⟨by (with_reducible repeat (first | apply rA | apply rB | apply rC)); exact rE HO135.out (fun _ hk => trivial)⟩, ⟨by with_reducible apply_rules [B12.out, bA, bB, bC]⟩, ⟨by with_reducible apply_rules [B13.out, bA, bB, bC]⟩, ⟨by with_reducible apply_rules [B37.out, bA, bB, bC]⟩, ⟨by (with_reducible apply_rules [HB.out, pA, pD, pE, sT, GE112.out, GE113.out, GE137.out])⟩⟩
       ·rw [if_neg c88] at H
        have c88b0 : (t153 == 0) = false := beq_eq_false_iff_ne.mpr c88
        have c88b1 : (t153 != 0) = true := bne_iff_ne.mpr c88
        have H' := aM H
        clear H
        go_wp2
        go_meet
        case rel => exact ⟨_, (true), (by first | rfl | (simp; done) | (simp [*]; done)), H', ⟨by have := HJ2.out; first | omega | exact Nat.le_refl _⟩, ⟨by (with_reducible repeat (first | apply rA | apply rB | apply rC)); exact rE HO144.out (fun _ hk => ⟨hk.1.2, hk.2⟩)⟩, ⟨by (with_reducible repeat (first | apply rA | apply rB | apply rC)); exact rE HO152.out (fun _ hk => ⟨hk.1.2, hk.2⟩)⟩, ⟨by (with_reducible repeat (first | apply rA | apply rB | apply rC)); exact rE HO156.out (fun _ hk => ⟨hk.1.2, hk.2⟩)⟩, ⟨by (with_reducible repeat (first | apply rA | apply rB | apply rC)); exact rE HO135.out (fun _ hk => trivial)⟩, ⟨by with_reducible apply_rules [B12.out, bA, bB, bC]⟩, ⟨by with_reducible apply_rules [B13.out, bA, bB, bC]⟩, ⟨by with_reducible apply_rules [B37.out, bA, bB, bC]⟩, ⟨by (with_reducible apply_rules [HB.out, pA, pD, pE, sT, GE112.out, GE113.out, GE137.out])⟩⟩
      ·rw [if_neg c87] at H
       have c87b0 : (t145 == 0) = false := beq_eq_false_iff_ne.mpr c87
       have c87b1 : (t145 != 0) = true := bne_iff_ne.mpr c87
       have H' := aM H
       clear H
       go_wp2
       go_meet
       case rel => exact ⟨_, (true), (by first | rfl | (simp; done) | (simp [*]; done)), H', ⟨by have := HJ2.out; first | omega | exact Nat.le_refl _⟩, ⟨by (with_reducible repeat (first | apply rA | apply rB | apply rC)); exact rE HO144.out (fun _ hk => ⟨hk.1.2, hk.2⟩)⟩, ⟨by (with_reducible repeat (first | apply rA | apply rB | apply rC)); exact rE HO152.out (fun _ hk => ⟨hk.1.2, hk.2⟩)⟩, ⟨by (with_reducible repeat (first | apply rA | apply rB | apply rC)); exact rE HO156.out (fun _ hk => ⟨hk.1.2, hk.2⟩)⟩, ⟨by (with_reducible repeat (first | apply rA | apply rB | apply rC)); exact rE HO135.out (fun _ hk => trivial)⟩, ⟨by with_reducible apply_rules [B12.out, bA, bB, bC]⟩, ⟨by with_reducible apply_rules [B13.out, bA, bB, bC]⟩, ⟨by with_reducible apply_rules [B37.out, bA, bB, bC]⟩, ⟨by (with_reducible apply_rules [HB.out, pA, pD, pE, sT, GE112.out, GE113.out, GE137.out])⟩⟩
     ·rw [if_neg c86] at H
      have c86b0 : (t136 == 0) = false := beq_eq_false_iff_ne.mpr c86
      have c86b1 : (t136 != 0) = true := bne_iff_ne.mpr c86
      (first | rw [c86b0] | (simp only [i64_w, i32_w]; rw [c86b0]) | skip)
      have H' := aM H
      clear H
      go_wp2
      go_meet
      case rel => exact ⟨_, (true), (by first | rfl | (simp; done) | (simp [*]; done)), H', ⟨by have := HJ2.out; first | omega | exact Nat.le_refl _⟩, ⟨by (with_reducible repeat (first | apply rA | apply rB | apply rC)); exact rE HO144.out (fun _ hk => ⟨hk.1.2, hk.2⟩)⟩, ⟨by (with_reducible repeat (first | apply rA | apply rB | apply rC)); exact rE HO152.out (fun _ hk => ⟨hk.1.2, hk.2⟩)⟩, ⟨by (with_reducible repeat (first | apply rA | apply rB | apply rC)); exact rE HO156.out (fun _ hk => ⟨hk.1.2, hk.2⟩)⟩, ⟨by (with_reducible repeat (first | apply rA | apply rB | apply rC)); exact rE HO135.out (fun _ hk => trivial)⟩, ⟨by with_reducible apply_rules [B12.out, bA, bB, bC]⟩, ⟨by with_reducible apply_rules [B13.out, bA, bB, bC]⟩, ⟨by with_reducible apply_rules [B37.out, bA, bB, bC]⟩, ⟨by (with_reducible apply_rules [HB.out, pA, pD, pE, sT, GE112.out, GE113.out, GE137.out])⟩⟩
    case rest =>
     clear HC61
     try clear c1
     try clear c2
     try clear p2
     try clear c3
     try clear p6
     try clear c7
     try clear c8
     try clear c9
     try clear c10
     try clear c24
     try clear c34
     try clear c38
     try clear p64
     try clear c73
     try clear c74
     try clear c79
     try clear c86
     try clear c86b0
     try clear c86b1
     try clear c87
     try clear c87b0
     try clear c87b1
     try clear c88
     try clear c88b0
     try clear c88b1
     try clear c89
     try clear c89b0
     try clear c89b1
     try clear c90
     try clear c90b0
     try clear c90b1
     try clear c92
     try clear c92b0
     try clear c92b1
     try clear c93
     try clear c93b0
     try clear c93b1
     try clear c93b2
     try clear c95
     try clear c96
     try clear c101
     try clear c102
     try clear c106
     try clear c107
     try clear hcz103_0
     try clear hcz103_1
     try clear hcz108_0
     try clear hcz108_1
     try clear hcz75_0
     try clear hcz75_1
     try clear hcz80_0
     try clear hcz80_1
     try clear hcz84_0
     try clear hcz84_1
     try clear hcz97_0
     try clear hcz97_1
     try clear hfz103_0
     try clear hfz103_1
     try clear hfz108_0
     try clear hfz108_1
     try clear hfz75_0
     try clear hfz75_1
     try clear hfz80_0
     try clear hfz80_1
     try clear hfz84_0
     try clear hfz84_1
     try clear hfz97_0
     try clear hfz97_1
     obtain ⟨kq, x112_60, rfl, HA, HJ60, HO_7, HO_9, HO_11, HO_138001, B12, B13, B37, HB⟩ := hcut
     cases kq with
     | zero => exact absurd HA.out (by simp [commodatumlaw12_UndoJoined.j1])
     | succ kj60 =>
      have H := HA.out
      clear HA
      simp only [commodatumlaw12_UndoJoined.j1] at H
      by_cases c109 : x112_60 = true
      ·subst c109
       have H1 : (none) = some r := by rw [if_pos rfl] at H; exact H
       exact absurd H1 (by simp)
      ·replace c109 := Bool.eq_false_iff.mpr c109
       subst c109
       have H1 : (commodatumlaw12_UndoJoined.l0 kj60 t142 t150 t154 0) = some r := by rw [if_neg (show ¬ (false = true) by decide)] at H; exact H
       clear H
       have H := H1
       clear H1
       have H' := aM H
       clear H
       go_wp2
       go_loopg [13] kj60 (fun kq v13 w' => ∃ (x13_3 : Int), v13 = .int .i64 x13_3 ∧ Aside0 (commodatumlaw12_UndoJoined.l0 kq t142 t150 t154 x13_3 = some r) ∧ Aside0 (kq ≤ kj60) ∧ Aside0 (Kd.R (Kd.int .i64) 3 w' w.heap.size (fun k_ => some k_ ≠ (v151 : Value).ownBlock ∧ some k_ ≠ (v155 : Value).ownBlock) v143 t142) ∧ Aside0 (Kd.R (Kd.int .i64) 3 w' w.heap.size (fun k_ => some k_ ≠ (v143 : Value).ownBlock ∧ some k_ ≠ (v155 : Value).ownBlock) v151 t150) ∧ Aside0 (Kd.R (Kd.int .i64) 3 w' w.heap.size (fun k_ => some k_ ≠ (v143 : Value).ownBlock ∧ some k_ ≠ (v151 : Value).ownBlock) v155 t154) ∧ Aside0 (Kd.R k67 67 w' w.heap.size (fun _ => True) (.slice Ao71 t133.length co71) t133) ∧ Aside0 (w'.heap[gb112]? = some (.cells #[.int .i64 a0_0, (.slice A0_1 l0_1.length c0_1)] 25 (0, 0))) ∧ Aside0 (w'.heap[gb113]? = some (.cells #[.int .i64 a1_0, (.slice A1_1 l1_1.length c1_1)] 25 (0, 0))) ∧ Aside0 (w'.heap[gb137]? = some (.cells #[.int .i64 t132, (.slice Ao71 t133.length co71)] 25 (0, 0))) ∧ Aside0 (Below w.heap.size w w'))
       case atStart => exact ⟨(0), (by first | rfl | (simp; done) | (simp [*]; done)), H', ⟨Nat.le_refl _⟩, ⟨by with_reducible apply_rules [HO_7.out, rA, rB, rC]⟩, ⟨by with_reducible apply_rules [HO_9.out, rA, rB, rC]⟩, ⟨by with_reducible apply_rules [HO_11.out, rA, rB, rC]⟩, ⟨by with_reducible apply_rules [HO_138001.out, rA, rB, rC]⟩, ⟨by with_reducible apply_rules [B12.out, bA, bB, bC]⟩, ⟨by with_reducible apply_rules [B13.out, bA, bB, bC]⟩, ⟨by with_reducible apply_rules [B37.out, bA, bB, bC]⟩, ⟨by (with_reducible apply_rules [HB.out, pA, pD, pE, sT, GE112.out, GE113.out, GE137.out])⟩⟩
       case round =>
        clear H'
        try clear c1
        try clear c2
        try clear p2
        try clear c3
        try clear p6
        try clear c7
        try clear c8
        try clear c9
        try clear c10
        try clear c24
        try clear c34
        try clear c38
        try clear p64
        try clear c73
        try clear c74
        try clear c79
        try clear c86
        try clear c86b0
        try clear c86b1
        try clear c87
        try clear c87b0
        try clear c87b1
        try clear c88
        try clear c88b0
        try clear c88b1
        try clear c89
        try clear c89b0
        try clear c89b1
        try clear c90
        try clear c90b0
        try clear c90b1
        try clear c92
        try clear c92b0
        try clear c92b1
        try clear c93
        try clear c93b0
        try clear c93b1
        try clear c93b2
        try clear c95
        try clear c96
        try clear c101
        try clear c102
        try clear c106
        try clear c107
        try clear c109
        try clear hcz103_0
        try clear hcz103_1
        try clear hcz108_0
        try clear hcz108_1
        try clear hcz75_0
        try clear hcz75_1
        try clear hcz80_0
        try clear hcz80_1
        try clear hcz84_0
        try clear hcz84_1
        try clear hcz97_0
        try clear hcz97_1
        try clear hfz103_0
        try clear hfz103_1
        try clear hfz108_0
        try clear hfz108_1
        try clear hfz75_0
        try clear hfz75_1
        try clear hfz80_0
        try clear hfz80_1
        try clear hfz84_0
        try clear hfz84_1
        try clear hfz97_0
        try clear hfz97_1
        try clear p2
        try clear p6
        try clear p64
        obtain ⟨x13_3, rfl, HA, HK3, HO_7, HO_9, HO_11, HO_138001, B12, B13, B37, HB⟩ := hrel
        cases gk with
        | zero => exact absurd HA.out (by simp [commodatumlaw12_UndoJoined.l0])
        | succ k3 =>
         have H := HA.out
         clear HA
         simp only [commodatumlaw12_UndoJoined.l0] at H
         by_cases c110 : x13_3 < (t142.length : Int)
         ·rw [if_pos c110] at H
          have c110b0 : decide (x13_3 < (t142.length : Int)) = true := decide_eq_true c110
          clear c110
          by_cases c111 : 0 ≤ x13_3
          ·rw [if_pos c111] at H
           have c111b0 : decide (0 ≤ x13_3) = true := decide_eq_true c111
           clear c111
           by_cases c112 : (rd t142 x13_3) < 0
           ·rw [if_pos c112] at H
            exact absurd H (by simp)
           ·rw [if_neg c112] at H
            have c112b0 : decide ((rd t142 x13_3) < 0) = false := decide_eq_false c112
            clear c112
            by_cases c115 : (rd t142 x13_3) ≥ (t150.length : Int)
            ·rw [if_pos c115] at H
             exact absurd H (by simp)
            ·rw [if_neg c115] at H
             have c115b0 : decide ((t150.length : Int) ≤ (rd t142 x13_3)) = false := decide_eq_false c115
             clear c115
             by_cases c119 : x13_3 < (t154.length : Int)
             ·rw [if_pos c119] at H
              have c119b0 : decide (x13_3 < (t154.length : Int)) = true := decide_eq_true c119
              clear c119
              by_cases c120 : 0 ≤ (rd t142 x13_3)
              ·rw [if_pos c120] at H
               have c120b0 : decide (0 ≤ (rd t142 x13_3)) = true := decide_eq_true c120
               clear c120
               by_cases c121 : (rd t142 x13_3) < (t150.length : Int)
               ·rw [if_pos c121] at H
                have c121b0 : decide ((rd t142 x13_3) < (t150.length : Int)) = true := decide_eq_true c121
                clear c121
                by_cases c122 : (rd t154 x13_3) = (rd t150 (rd t142 x13_3))
                ·rw [if_pos c122] at H
                 have c122b0 : ((rd t154 x13_3) == (rd t150 (rd t142 x13_3))) = true := beq_iff_eq.mpr c122
                 have c122b1 : ((rd t154 x13_3) != (rd t150 (rd t142 x13_3))) = false := bne_eq_false_iff_eq.mpr c122
                 clear c122
                 have H' := aM H
                 clear H
                 obtain ⟨Ao123, co123, eo123⟩ := Kd.R_slice HO_7.out
                 subst eo123
                 try go_wp2
                 replace HO_7 := aM (rC HO_7.out)
                 replace HO_9 := aM (rC HO_9.out)
                 replace HO_11 := aM (rC HO_11.out)
                 replace HO_138001 := aM (rC HO_138001.out)
                 replace B12 := aM (bB B12.out)
                 replace B13 := aM (bB B13.out)
                 replace B37 := aM (bB B37.out)
                 replace HB := aM (pE HB.out)
                 have p158 : 0 ≤ (x13_3 : Int) := of_decide_eq_true (by assumption)
                 have q158 : x13_3 < (t142.length : Int) := of_decide_eq_true (by assumption)
                 obtain ⟨ad158, e158, hx158_0⟩ := Kd.at_int (Kd.R_reads' HO_7.out).2.2 x13_3 p158 q158
                 cases e158
                 replace p158 := eq_true p158
                 replace q158 := eq_true q158
                 have p159 : 0 ≤ (x13_3 : Int) := of_decide_eq_true (by assumption)
                 have q159 : x13_3 < (t142.length : Int) := of_decide_eq_true (by assumption)
                 obtain ⟨ad159, e159, hx159_0⟩ := Kd.at_int (Kd.R_reads' HO_7.out).2.2 x13_3 p159 q159
                 obtain rfl : ad158 = ad159 := (by injection e159)
                 replace p159 := eq_true p159
                 replace q159 := eq_true q159
                 obtain ⟨Ao125, co125, eo125⟩ := Kd.R_slice HO_9.out
                 (first | subst eo125 | (injection eo125 with f1_ f2_ f3_; have f4_ := f1_.symm; have f5_ := f3_.symm; clear f1_ f2_ f3_; subst f4_; subst f5_))
                 obtain ⟨Ao126, co126, eo126⟩ := Kd.R_slice HO_11.out
                 (first | subst eo126 | (injection eo126 with f1_ f2_ f3_; have f4_ := f1_.symm; have f5_ := f3_.symm; clear f1_ f2_ f3_; subst f4_; subst f5_))
                 have p160 : 0 ≤ (x13_3 : Int) := of_decide_eq_true (by assumption)
                 have q160 : x13_3 < (t154.length : Int) := of_decide_eq_true (by assumption)
                 obtain ⟨ad160, e160, hx160_0⟩ := Kd.at_int (Kd.R_reads' HO_11.out).2.2 x13_3 p160 q160
                 cases e160
                 replace p160 := eq_true p160
                 replace q160 := eq_true q160
                 have p161 : 0 ≤ (x13_3 : Int) := of_decide_eq_true (by assumption)
                 have q161 : x13_3 < (t142.length : Int) := of_decide_eq_true (by assumption)
                 obtain ⟨ad161, e161, hx161_0⟩ := Kd.at_int (Kd.R_reads' HO_7.out).2.2 x13_3 p161 q161
                 obtain rfl : ad158 = ad161 := (by injection e161)
                 replace p161 := eq_true p161
                 replace q161 := eq_true q161
                 have p162 : 0 ≤ ((rd t142 x13_3) : Int) := of_decide_eq_true (by assumption)
                 have q162 : (rd t142 x13_3) < (t150.length : Int) := of_decide_eq_true (by assumption)
                 obtain ⟨ad162, e162, hx162_0⟩ := Kd.at_int (Kd.R_reads' HO_9.out).2.2 (rd t142 x13_3) p162 q162
                 cases e162
                 replace p162 := eq_true p162
                 replace q162 := eq_true q162
                 refine start_ (n := 28) (S := fun w' => w'.cell? (ad158.add (x13_3).toNat) = some (.int .i64 (rd t142 x13_3)) ∧ w'.cell? (ad158.add (x13_3).toNat) = some (.int .i64 (rd t142 x13_3)) ∧ w'.cell? (ad160.add (x13_3).toNat) = some (.int .i64 (rd t154 x13_3)) ∧ w'.cell? (ad158.add (x13_3).toNat) = some (.int .i64 (rd t142 x13_3)) ∧ w'.cell? (ad162.add ((rd t142 x13_3)).toNat) = some (.int .i64 (rd t150 (rd t142 x13_3)))) (ds := []) z61j2 (by kernel_rfl) rfl rfl ⟨hx158_0, hx159_0, hx160_0, hx161_0, hx162_0⟩ (fun hHeld => ?_); refine with_tabW commodatumlaw12_UndoJoined.tab12 commodatumlaw12_UndoJoined.bits12 (fun HT_ HW_ => ?_)
                 generalize wr.drew = w124 at HO_7 HO_9 HO_11 HO_138001 B12 B13 B37 HB hx158_0 hx159_0 hx160_0 hx161_0 hx162_0 hHeld ⊢
                 refine pure_ (i := 0) (N := some 119) (v := ?_) (a' := ?_) z62j2 rfl rfl (any_of HT_.out (by kernel_rfl)) (fun _ _ _ h => h) (Or.inl ⟨by rfl, ?_⟩) ?_ ?_; rotate_left; (intro w'; go_simp; with_reducible rfl); rotate_left; (simp only [Act.put, pSj2, i64_w]; rfl)
                 refine pure_ (i := 1) (N := some 120) (v := ?_) (a' := ?_) z63j2 rfl rfl (any_of HT_.out (by kernel_rfl)) (fun _ _ _ h => h) (Or.inl ⟨by rfl, ?_⟩) ?_ ?_; rotate_left; (intro w'; go_simp; with_reducible rfl); rotate_left; (simp only [Act.put, pSj2, i64_w]; rfl)
                 refine pure_ (i := 2) (N := some 121) (v := ?_) (a' := ?_) z64j2 rfl rfl (any_of HT_.out (by kernel_rfl)) (fun _ _ _ h => h) (Or.inl ⟨by rfl, ?_⟩) ?_ ?_; rotate_left; (intro w'; go_simp; with_reducible rfl); rotate_left; (simp only [Act.put, pSj2, i64_w]; rfl)
                 refine take_ (i := 3) (N := some 122) (v := ?_) (a' := ?_) z65j2 rfl rfl (take_ofW HT_.out HW_.out (by kernel_rfl)) (fun _ _ _ h => h) (Or.inl ⟨by rfl, ?_⟩) hHeld ?_ ?_; rotate_left; (rintro w' ⟨s0, s1, s2, s3, s4⟩; go_simp; with_reducible rfl); rotate_left; (simp only [Act.put, pSj2, i64_w]; rfl)
                 refine pure_ (i := 4) (N := some 123) (v := ?_) (a' := ?_) z66j2 rfl rfl (any_of HT_.out (by kernel_rfl)) (fun _ _ _ h => h) (Or.inl ⟨by rfl, ?_⟩) ?_ ?_; rotate_left; (intro w'; go_simp; with_reducible rfl); rotate_left; (simp only [Act.put, pSj2, i64_w]; rfl)
                 refine pure_ (i := 5) (N := some 124) (v := ?_) (a' := ?_) z67j2 rfl rfl (any_of HT_.out (by kernel_rfl)) (fun _ _ _ h => h) (Or.inl ⟨by rfl, ?_⟩) ?_ ?_; rotate_left; (intro w'; go_simp; with_reducible rfl); rotate_left; (simp only [Act.put, pSj2, i64_w]; rfl)
                 refine pure_ (i := 6) (N := some 125) (v := ?_) (a' := ?_) z68j2 rfl rfl (any_of HT_.out (by kernel_rfl)) (fun _ _ _ h => h) (Or.inl ⟨by rfl, ?_⟩) ?_ ?_; rotate_left; (intro w'; go_simp; with_reducible rfl); rotate_left; (simp only [Act.put, pSj2, i64_w]; rfl)
                 refine pure_ (i := 7) (N := some 126) (v := ?_) (a' := ?_) z69j2 rfl rfl (any_of HT_.out (by kernel_rfl)) (fun _ _ _ h => h) (Or.inl ⟨by rfl, ?_⟩) ?_ ?_; rotate_left; (intro w'; go_simp; with_reducible rfl); rotate_left; (simp only [Act.put, pSj2, i64_w]; rfl)
                 refine pure_ (i := 8) (N := some 127) (v := ?_) (a' := ?_) z70j2 rfl rfl (any_of HT_.out (by kernel_rfl)) (fun _ _ _ h => h) (Or.inl ⟨by rfl, ?_⟩) ?_ ?_; rotate_left; (intro w'; go_simp; with_reducible rfl); rotate_left; (simp only [Act.put, pSj2, i64_w]; rfl)
                 refine pure_ (i := 10) (N := some 129) (v := ?_) (a' := ?_) z71j2 rfl rfl (any_of HT_.out (by kernel_rfl)) (fun _ _ _ h => h) (Or.inl ⟨by rfl, ?_⟩) ?_ ?_; rotate_left; (intro w'; go_simp; with_reducible rfl); rotate_left; (simp only [Act.put, pSj2, i64_w]; rfl)
                 refine pure_ (i := 11) (N := some 130) (v := ?_) (a' := ?_) z72j2 rfl rfl (any_of HT_.out (by kernel_rfl)) (fun _ _ _ h => h) (Or.inl ⟨by rfl, ?_⟩) ?_ ?_; rotate_left; (intro w'; go_simp; with_reducible rfl); rotate_left; (simp only [Act.put, pSj2, i64_w]; rfl)
                 refine take_ (i := 9) (N := some 128) (v := ?_) (a' := ?_) z73j2 rfl rfl (take_ofW HT_.out HW_.out (by kernel_rfl)) (fun _ _ _ h => h) (Or.inl ⟨by rfl, ?_⟩) hHeld ?_ ?_; rotate_left; (rintro w' ⟨s0, s1, s2, s3, s4⟩; go_simp; with_reducible rfl); rotate_left; (simp only [Act.put, pSj2, i64_w]; rfl)
                 refine pure_ (i := 12) (N := some 131) (v := ?_) (a' := ?_) z74j2 rfl rfl (any_of HT_.out (by kernel_rfl)) (fun _ _ _ h => h) (Or.inl ⟨by rfl, ?_⟩) ?_ ?_; rotate_left; (intro w'; go_simp; with_reducible rfl); rotate_left; (simp only [Act.put, pSj2, i64_w]; rfl)
                 refine pure_ (i := 13) (N := some 132) (v := ?_) (a' := ?_) z75j2 rfl rfl (any_of HT_.out (by kernel_rfl)) (fun _ _ _ h => h) (Or.inl ⟨by rfl, ?_⟩) ?_ ?_; rotate_left; (intro w'; go_simp; with_reducible rfl); rotate_left; (simp only [Act.put, pSj2, i64_w]; rfl)
                 refine pure_ (i := 14) (N := some 133) (v := ?_) (a' := ?_) z76j2 rfl rfl (any_of HT_.out (by kernel_rfl)) (fun _ _ _ h => h) (Or.inl ⟨by rfl, ?_⟩) ?_ ?_; rotate_left; (intro w'; go_simp; with_reducible rfl); rotate_left; (simp only [Act.put, pSj2, i64_w]; rfl)
                 refine pure_ (i := 15) (N := some 134) (v := ?_) (a' := ?_) z77j2 rfl rfl (any_of HT_.out (by kernel_rfl)) (fun _ _ _ h => h) (Or.inl ⟨by rfl, ?_⟩) ?_ ?_; rotate_left; (intro w'; go_simp; with_reducible rfl); rotate_left; (simp only [Act.put, pSj2, i64_w]; rfl)
                 refine pure_ (i := 16) (N := some 135) (v := ?_) (a' := ?_) z78j2 rfl rfl (any_of HT_.out (by kernel_rfl)) (fun _ _ _ h => h) (Or.inl ⟨by rfl, ?_⟩) ?_ ?_; rotate_left; (intro w'; go_simp; with_reducible rfl); rotate_left; (simp only [Act.put, pSj2, i64_w]; rfl)
                 refine pure_ (i := 17) (N := some 136) (v := ?_) (a' := ?_) z79j2 rfl rfl (any_of HT_.out (by kernel_rfl)) (fun _ _ _ h => h) (Or.inl ⟨by rfl, ?_⟩) ?_ ?_; rotate_left; (intro w'; go_simp; with_reducible rfl); rotate_left; (simp only [Act.put, pSj2, i64_w]; rfl)
                 refine pure_ (i := 19) (N := some 138) (v := ?_) (a' := ?_) z80j2 rfl rfl (any_of HT_.out (by kernel_rfl)) (fun _ _ _ h => h) (Or.inl ⟨by rfl, ?_⟩) ?_ ?_; rotate_left; (intro w'; go_simp; with_reducible rfl); rotate_left; (simp only [Act.put, pSj2, i64_w]; rfl)
                 refine pure_ (i := 20) (N := some 139) (v := ?_) (a' := ?_) z81j2 rfl rfl (any_of HT_.out (by kernel_rfl)) (fun _ _ _ h => h) (Or.inl ⟨by rfl, ?_⟩) ?_ ?_; rotate_left; (intro w'; go_simp; with_reducible rfl); rotate_left; (simp only [Act.put, pSj2, i64_w]; rfl)
                 refine pure_ (i := 21) (N := some 140) (v := ?_) (a' := ?_) z82j2 rfl rfl (any_of HT_.out (by kernel_rfl)) (fun _ _ _ h => h) (Or.inl ⟨by rfl, ?_⟩) ?_ ?_; rotate_left; (intro w'; go_simp; with_reducible rfl); rotate_left; (simp only [Act.put, pSj2, i64_w]; rfl)
                 refine pure_ (i := 22) (N := some 141) (v := ?_) (a' := ?_) z83j2 rfl rfl (any_of HT_.out (by kernel_rfl)) (fun _ _ _ h => h) (Or.inl ⟨by rfl, ?_⟩) ?_ ?_; rotate_left; (intro w'; go_simp; with_reducible rfl); rotate_left; (simp only [Act.put, pSj2, i64_w]; rfl)
                 refine take_ (i := 18) (N := some 137) (v := ?_) (a' := ?_) z84j2 rfl rfl (take_ofW HT_.out HW_.out (by kernel_rfl)) (fun _ _ _ h => h) (Or.inl ⟨by rfl, ?_⟩) hHeld ?_ ?_; rotate_left; (rintro w' ⟨s0, s1, s2, s3, s4⟩; go_simp; with_reducible rfl); rotate_left; (simp only [Act.put, pSj2, i64_w]; rfl)
                 refine take_ (i := 23) (N := some 142) (v := ?_) (a' := ?_) z85j2 rfl rfl (take_ofW HT_.out HW_.out (by kernel_rfl)) (fun _ _ _ h => h) (Or.inl ⟨by rfl, ?_⟩) hHeld ?_ ?_; rotate_left; (rintro w' ⟨s0, s1, s2, s3, s4⟩; go_simp; with_reducible rfl); rotate_left; (simp only [Act.put, pSj2, i64_w]; rfl)
                 refine pure_ (i := 24) (N := some 143) (v := ?_) (a' := ?_) z86j2 rfl rfl (any_of HT_.out (by kernel_rfl)) (fun _ _ _ h => h) (Or.inl ⟨by rfl, ?_⟩) ?_ ?_; rotate_left; (intro w'; go_simp; with_reducible rfl); rotate_left; (simp only [Act.put, pSj2, i64_w]; rfl)
                 refine take_ (i := 25) (N := some 144) (v := ?_) (a' := ?_) z87j2 rfl rfl (take_ofW HT_.out HW_.out (by kernel_rfl)) (fun _ _ _ h => h) (Or.inl ⟨by rfl, ?_⟩) hHeld ?_ ?_; rotate_left; (rintro w' ⟨s0, s1, s2, s3, s4⟩; go_simp; with_reducible rfl); rotate_left; (simp only [Act.put, pSj2, i64_w]; rfl)
                 refine pure_ (i := 26) (N := some 145) (v := ?_) (a' := ?_) z88j2 rfl rfl (any_of HT_.out (by kernel_rfl)) (fun _ _ _ h => h) (Or.inl ⟨by rfl, ?_⟩) ?_ ?_; rotate_left; (intro w'; go_simp; with_reducible rfl); rotate_left; (simp only [Act.put, pSj2, i64_w]; rfl)
                 refine pure_ (i := 27) (N := some 146) (v := ?_) (a' := ?_) z89j2 rfl rfl (any_of HT_.out (by kernel_rfl)) (fun _ _ _ h => h) (Or.inl ⟨by rfl, ?_⟩) ?_ ?_; rotate_left; (intro w'; go_simp; with_reducible rfl); rotate_left; (simp only [Act.put, pSj2, i64_w]; rfl)
                 refine done_ (done_of HT_.out (by kernel_rfl)) ?_
                 try go_wp2
                 go_roundg k3
                 case measure => have := HJ2.out; have := HJ60.out; have := HK3.out; omega
                 case rel => exact ⟨(wrap64 (x13_3 + 1)), (by first | rfl | (simp; done) | (simp [*]; done)), H', ⟨by have := HJ2.out; have := HJ60.out; have := HK3.out; omega⟩, ⟨by with_reducible apply_rules [HO_7.out, rA, rB, rC]⟩, ⟨by with_reducible apply_rules [HO_9.out, rA, rB, rC]⟩, ⟨by with_reducible apply_rules [HO_11.out, rA, rB, rC]⟩, ⟨by with_reducible apply_rules [HO_138001.out, rA, rB, rC]⟩, ⟨by with_reducible apply_rules [B12.out, bA, bB, bC]⟩, ⟨by with_reducible apply_rules [B13.out, bA, bB, bC]⟩, ⟨by with_reducible apply_rules [B37.out, bA, bB, bC]⟩, ⟨by (with_reducible apply_rules [HB.out, pA, pD, pE, sT, GE112.out, GE113.out, GE137.out])⟩⟩
                ·rw [if_neg c122] at H
                 exact absurd H (by simp)
               ·rw [if_neg c121] at H
                exact absurd H (by simp)
              ·rw [if_neg c120] at H
               exact absurd H (by simp)
             ·rw [if_neg c119] at H
              exact absurd H (by simp)
          ·rw [if_neg c111] at H
           exact absurd H (by simp)
         ·rw [if_neg c110] at H
          have c110b0 : decide (x13_3 < (t142.length : Int)) = false := decide_eq_false c110
          clear c110
          replace H := Option.bind_eq_some_iff.mp H
          obtain ⟨t163, A1310, H⟩ := H
          replace H : (some t163) = some r := H
          have A131 := aM A1310
          clear A1310
          obtain rfl := Option.some.inj H
          obtain ⟨Ao132, co132, eo132⟩ := Kd.R_slice HO_7.out
          subst eo132
          go_wp2_with (first | ((with_reducible refine gate_callee (f := 12) rfl ?_); refine goesL_ (some 147) rfl rfl Tryd.func12 (by kernel_rfl) rfl #[] rfl (by (try simp only [List.map_toArray, List.map_cons, List.map_nil]); first | done | rfl | (simp only [List.length_drop, List.length_take]; rfl)) ?_; (with_reducible refine (commodatumlaw12_Awake.calls k3  t163 _ ?side1 A131.out).mono ?_); (case side1 => exact Laid.below HLAY.out (by (with_reducible apply_rules [HB.out, pA, pD, pE, sT, GE112.out, GE113.out, GE137.out]))); rintro e w133 ⟨rfl, hb⟩; refine ⟨_, rfl, ?_⟩; replace HO_7 := aM (rD (by with_reducible apply_rules [HO_7.out, rA, rB, rC]) hb); replace HO_9 := aM (rD (by with_reducible apply_rules [HO_9.out, rA, rB, rC]) hb); replace HO_11 := aM (rD (by with_reducible apply_rules [HO_11.out, rA, rB, rC]) hb); replace HO_138001 := aM (rD (by with_reducible apply_rules [HO_138001.out, rA, rB, rC]) hb); replace B12 := aM (bD (g := gb112) (o := .cells #[.int .i64 a0_0, .slice A0_1 l0_1.length c0_1] 25 (0, 0)) (by with_reducible apply_rules [B12.out, bA, bB, bC]) hb); replace B13 := aM (bD (g := gb113) (o := .cells #[.int .i64 a1_0, .slice A1_1 l1_1.length c1_1] 25 (0, 0)) (by with_reducible apply_rules [B13.out, bA, bB, bC]) hb); replace B37 := aM (bD (g := gb137) (o := .cells #[.int .i64 t132, .slice Ao71 t133.length co71] 25 (0, 0)) (by with_reducible apply_rules [B37.out, bA, bB, bC]) hb); replace HB := aM (pS_ (by (with_reducible apply_rules [HB.out, pA, pD, pE, sT, GE112.out, GE113.out, GE137.out])) hb); (try clear hb); (try clear hb2); (try clear hk); (try clear hi)))
          go_ret
          exact ⟨by first | rfl | (simp [errW_none, errW_some] <;> rfl) | (simp [*, errW_none, errW_some] <;> rfl), by (with_reducible apply_rules [HB.out, pA, pD, pE, sT, GE112.out, GE113.out, GE137.out])⟩

end Go.Proofs.YthfhnkpipdbekaaDoor.Tj
