-- CUT by a program of this session: what the claim does not use is left out
import Derived.Test.YthfhnkpipdbekaaDoorUax0
import Derived.Test.YthfhnkpipdbekaaDoorProg
import Derived.Below
import Derived.Deep.Draws
import Derived.Deep.AppendLies
import Derived.Maps.AppendAt
import Derived.OwnWalk
import Derived.Laws.BytesArg
import Derived.Laws.MakeOwn
import Derived.Laws.OwnMore
import Derived.Deep.OwnRows
import Derived.Tactics
import Derived.Lib.ConvBytes
import Derived.Laws.Slices
import Derived.WalkKit
import Derived.KernelRfl
import Derived.RowKit3
import Derived.Deep.LoopGhost
import Derived.Deep.QuietTactic
import Derived.BigQuiet
import Derived.WideLaws
import Derived.Deep.DeepCutAuto
import Derived.Deep.CutBlock
import Derived.Deep.RegionHeld3
import Derived.Laws.Rows
import Derived.Lib.AppendStr
import Derived.ArgAppend
import Derived.Laws.IdiomCopy
import Derived.OrdersHeld
import Derived.Laws.BitsLemmas
import Derived.RowKit
import Derived.Test.YthfhnkpipdbekaaDoorN6
import Derived.Test.YthfhnkpipdbekaaDoorWAll
import Derived.Test.YthfhnkpipdbekaaDoorTax2
namespace Go.Proofs.YthfhnkpipdbekaaDoor.Ta
open Go.Proofs.YthfhnkpipdbekaaDoor.Ua
open Go.Proofs.YthfhnkpipdbekaaDoor.Giv
open Go.RowKit Go.Proofs.YthfhnkpipdbekaaDoorW.PrintWords Go.Proofs.YthfhnkpipdbekaaDoorW.PrintLast Go.Proofs.YthfhnkpipdbekaaDoorW.PrintMore
attribute [local go_sem] max2_int min2_int max_two min_two max_three min_three max_four min_four   -- for this text's walks alone
set_option linter.unusedVariables false
set_option linter.unusedSimpArgs false

def undo_Permutation.l0 : Nat → List Int → Int → Int → Int → List (S67) → Option (List Int × Int)
 | 0, _, _, _, _, _ => none
 | k + 1, x5, x17, x18, x115000, x115001 => if x18 < x17 then ((undo_final.f k x115001 x18).bind fun t119 => (if 0 ≤ x18 then (if x18 < (x5.length : Int) then (undo_Permutation.l0 k (x5.set (x18 : Int).toNat t119) x17 (wrap64 (x18 + 1)) x115000 x115001) else (none)) else (none))) else (some (x5, 0))
def undo_Permutation.f (k : Nat) (a0_0 : Int) (l0_1 : List (S67)) : Option (List Int × Int) := (undo_enumerable.f a0_0 l0_1).bind fun t115 => (if t115 = 0 then (if 0 ≤ a0_0 then (if 0 ≤ (shl .i64 1 a0_0) then (if (shl .i64 1 a0_0 : Int).toNat ≤ 35184372088832 then ((some (List.replicate (shl .i64 1 a0_0 : Int).toNat 0 : List Int)).bind fun y116 => (undo_Permutation.l0 k y116 (y116.length : Int) 0 a0_0 l0_1)) else (none)) else (none)) else (none)) else (some (([] : List Int), t115)))
open Bool renaming true → T, false → F
open Go.Proofs.YthfhnkpipdbekaaDoorW.PrintWords renaming Kd.R_alloc → rA, Kd.R_drewN → rB, Kd.R_drew → rC, blk_drewN → bA, blk_drew → bB, blk_alloc → bC, below_set → sT, Aside0.mk → aM, pw_below_drewN → pD, below_drew1 → pE, below_alloc → pA, blk_below → bD, blk_cell → bE, blk_frozen → bF, below_step → pS_
mutual
def undo_Restores.l0 : Nat → Int → List Int → Int → Int → Int → List (S67) → Option (List Bool × Int)
 | 0, _, _, _, _, _, _ => none
 | k + 1, x6, x19, x20, x21, x122000, x122001 => if x21 < x20 then (if 0 ≤ x21 then (if x21 < (x19.length : Int) then (undo_Restores.l0 k (Go.bits .or .i64 x6 (Go.bits .xor .i64 x21 (rd x19 x21))) x19 x20 (wrap64 (x21 + 1)) x122000 x122001) else (none)) else (none)) else (if 0 ≤ x122000 then (if (x122000 : Int).toNat ≤ 281474976710656 then ((some (List.replicate (x122000 : Int).toNat false : List Bool)).bind fun y127 => (undo_Restores.l1 k x6 y127 (y127.length : Int) 0)) else (none)) else (none))
def undo_Restores.l1 : Nat → Int → List Bool → Int → Int → Option (List Bool × Int)
 | 0, _, _, _, _ => none
 | k + 1, x6, x9, x36, x37 => if x37 < x36 then (if 0 ≤ x37 then (if x37 < (x9.length : Int) then (undo_Restores.l1 k x6 (x9.set (x37 : Int).toNat ((Go.bits .and .i64 (shr .i64 x6 x37) 1) == 0)) x36 (wrap64 (x37 + 1))) else (none)) else (none)) else (some (x9, 0))
end
def undo_Restores.f (k : Nat) (a0_0 : Int) (l0_1 : List (S67)) : Option (List Bool × Int) := (undo_Permutation.f k a0_0 l0_1).bind fun bt122 => (if bt122.2 = 0 then (undo_Restores.l0 k 0 bt122.1 (bt122.1.length : Int) 0 a0_0 l0_1) else (some (([] : List Bool), bt122.2)))

def api_RevOp_68.l0 : Nat → List (S67) → Int → Int → Option ((List (S67)))
 | 0, _, _, _ => none
 | k + 1, x0, x2, x3 => if x2 < x3 then (if 0 ≤ x3 then (if x3 < (x0.length : Int) then (if 0 ≤ x2 then (if x2 < (x0.length : Int) then (api_RevOp_68.l0 k ((x0.set (x2 : Int).toNat (⟨(rd_T67 x0 x3).f0, (rd_T67 x0 x3).f1, (rd_T67 x0 x3).f2, (rd_T67 x0 x3).f3⟩ : S67)).set (x3 : Int).toNat (⟨(rd_T67 x0 x2).f0, (rd_T67 x0 x2).f1, (rd_T67 x0 x2).f2, (rd_T67 x0 x2).f3⟩ : S67)) (wrap64 (x2 + 1)) (wrap64 (x3 - 1))) else (none)) else (none)) else (none)) else (none)) else (some x0)
def api_RevOp_68.f (k : Nat) (l0 : List (S67)) : Option ((List (S67))) := api_RevOp_68.l0 k l0 0 (wrap64 ((l0.length : Int) - 1))
def undo_Inverse.f (k : Nat) (a0_0 : Int) (l0_1 : List (S67)) : Option (Int × (List (S67)) × Int) := (undo_Valid.f a0_0 l0_1).bind fun t137 => (if t137 = true then ((slices_Clone_ops.f l0_1).bind fun t138 => ((api_RevOp_68.f k t138).bind fun t141 => (some (a0_0, t141, 0)))) else (some (0, ([] : List (S67)), 1)))
end Go.Proofs.YthfhnkpipdbekaaDoor.Ta
