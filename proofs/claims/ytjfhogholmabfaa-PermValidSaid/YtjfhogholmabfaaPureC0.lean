/- All permutations of at most seven points, one by one: the printed cycles and parities. -/
import Derived.Test.YtjfhogholmabfaaPureE0
import Derived.Test.YtjfhogholmabfaaPax11
import Derived.Test.YtjfhogholmabfaaV7
import Derived.Test.YtjfhogholmabfaaV8
namespace Go.Proofs.Ytjfhogholmabfaa.Pure
set_option linter.unusedVariables false
set_option linter.unusedSimpArgs false
open Go.RowKit Go.Proofs.YtjfhogholmabfaaW.PrintWords Go.Proofs.YtjfhogholmabfaaW.PrintLast Go.Proofs.YtjfhogholmabfaaW.PrintMore
open Pa Giv

def chkV (p : List Int) : Bool :=
  decide (commodatumref01_Cycles.f 40 p = some (cycL p)) &&
  (decide (commodatumref01_Parity.f 64 p = some (Int.tmod (sumW (cycL p)) 2)) &&
   decide (commodatumref01_SameLists.f 40 (cycL p) (cycL p) = some true))
set_option maxRecDepth 100000
theorem chk1 : allExt 1 chkV 1 [] = true := by decide +kernel
theorem chk2 : allExt 2 chkV 2 [] = true := by decide +kernel
theorem chk3 : allExt 3 chkV 3 [] = true := by decide +kernel
theorem chk4 : allExt 4 chkV 4 [] = true := by decide +kernel
theorem chk6 : allExt 6 chkV 6 [] = true := by decide +kernel
theorem chk5 : allExt 5 chkV 5 [] = true := by decide +kernel
end Go.Proofs.Ytjfhogholmabfaa.Pure
