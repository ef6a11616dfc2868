/- All permutations of six and seven points, a part: cycle lengths. -/
import Derived.Test.YtjfhogholmabfaaPureF0
namespace Go.Proofs.Ytjfhogholmabfaa.Pure
set_option maxRecDepth 100000
theorem chl7_6 : allExt 7 chkL 6 [6] = true := by decide +kernel
theorem chl6 : allExt 6 chkL 6 [] = true := by decide +kernel
end Go.Proofs.Ytjfhogholmabfaa.Pure
