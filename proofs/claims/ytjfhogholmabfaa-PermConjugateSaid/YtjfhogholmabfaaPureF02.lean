/- All permutations of six and seven points, a part: cycle lengths. -/
import Derived.Test.YtjfhogholmabfaaPureF0
namespace Go.Proofs.Ytjfhogholmabfaa.Pure
set_option maxRecDepth 100000
theorem chl7_2 : allExt 7 chkL 6 [2] = true := by decide +kernel
theorem chl7_3 : allExt 7 chkL 6 [3] = true := by decide +kernel
end Go.Proofs.Ytjfhogholmabfaa.Pure
