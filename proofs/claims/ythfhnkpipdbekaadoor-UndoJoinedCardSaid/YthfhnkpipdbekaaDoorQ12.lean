-- CUT by a program of this session: what the claim does not use is left out
import Derived.Test.YthfhnkpipdbekaaDoorQ11
import Derived.Test.YthfhnkpipdbekaaDoorUax0
import Derived.Test.YthfhnkpipdbekaaDoorProg
import Derived.Below
import Derived.Deep.Draws
import Derived.Deep.AppendLies
import Derived.Maps.AppendAt
import Derived.OwnWalk
import Derived.Laws.BytesArg
import Derived.Laws.MakeOwn
import Derived.Laws.OwnMore
import Derived.Deep.OwnRows
import Derived.Tactics
import Derived.Lib.ConvBytes
import Derived.Laws.Slices
import Derived.WalkKit
import Derived.KernelRfl
import Derived.RowKit3
import Derived.Deep.LoopGhost
import Derived.Deep.QuietTactic
import Derived.BigQuiet
import Derived.WideLaws
import Derived.Deep.DeepCutAuto
import Derived.Deep.CutBlock
import Derived.Deep.RegionHeld3
import Derived.Laws.Rows
import Derived.Lib.AppendStr
import Derived.ArgAppend
import Derived.Laws.IdiomCopy
import Derived.OrdersHeld
import Derived.Laws.BitsLemmas
import Derived.RowKit
import Derived.Test.YthfhnkpipdbekaaDoorN12
import Derived.Test.YthfhnkpipdbekaaDoorN6
import Derived.Test.YthfhnkpipdbekaaDoorWAll
import Derived.Test.YthfhnkpipdbekaaDoorTax5
import Derived.Test.YthfhnkpipdbekaaDoorTax12
import Derived.Test.YthfhnkpipdbekaaDoorTax13
import Derived.Test.YthfhnkpipdbekaaDoorTax2
import Derived.Test.YthfhnkpipdbekaaDoorTax3
import Derived.Test.YthfhnkpipdbekaaDoorTax4
import Derived.Test.YthfhnkpipdbekaaDoorTxx1
import Derived.Test.YthfhnkpipdbekaaDoorTxx2
import Derived.Test.YthfhnkpipdbekaaDoorTbx1
namespace Go.Proofs.YthfhnkpipdbekaaDoor.Pure
set_option linter.unusedVariables false
set_option linter.unusedSimpArgs false
open Go.RowKit Go.Proofs.YthfhnkpipdbekaaDoorW.PrintWords Go.Proofs.YthfhnkpipdbekaaDoorW.PrintLast Go.Proofs.YthfhnkpipdbekaaDoorW.PrintMore
open Ua Ta Giv Tb
theorem cost_f {n : Nat} {l : List S67} (hn : n ≤ 20) (hl : l.length ≤ 200000) : commodatumref12_Cost.f n l n = some (((1 + l.length) * 2 ^ n : Nat) : Int) := by
 have h2 := (cost_mul hn hl).2
 have e : wrap64 (1 + (l.length : Int)) = ((1 + l.length : Nat) : Int) := by unfold wrap64; omega
 unfold commodatumref12_Cost.f
 rw [if_neg (by omega), if_pos (by omega), pow_int n hn, e, ← Int.natCast_mul, Nat.mul_comm]
 congr 1
 generalize (1 + l.length) * 2 ^ n = X at *
 unfold wrap64
 rw [p62] at h2
 omega
end Go.Proofs.YthfhnkpipdbekaaDoor.Pure
