-- CUT by a program of this session: what the claim does not use is left out
import Derived.Test.YthfhnkpipdbekaaDoorQ9
namespace Go.Proofs.YthfhnkpipdbekaaDoor.Pure
set_option linter.unusedVariables false
set_option linter.unusedSimpArgs false
open Go.RowKit Go.Proofs.YthfhnkpipdbekaaDoorW.PrintWords Go.Proofs.YthfhnkpipdbekaaDoorW.PrintLast Go.Proofs.YthfhnkpipdbekaaDoorW.PrintMore
open Ua Ta Giv Tb
theorem permL_get {n : Nat} {l : List S67} {i : Nat} (hi : i < 2 ^ n) : rd (permL n l) (i : Int) = ((Giv.runN i l : Nat) : Int) := by
 rw [rd_at _ _ (by simp [permL]; exact hi)]
 simp [permL]
theorem permL_len (n : Nat) (l : List S67) : (permL n l).length = 2 ^ n := by simp [permL]
end Go.Proofs.YthfhnkpipdbekaaDoor.Pure
