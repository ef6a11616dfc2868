/- All permutations of seven points: orders. -/
import Derived.Test.YtjfhogholmabfaaPureD0
namespace Go.Proofs.Ytjfhogholmabfaa.Pure
set_option maxRecDepth 100000
theorem cho7_0 : allExt 7 chkO 6 [0] = true := by decide +kernel
theorem cho7_1 : allExt 7 chkO 6 [1] = true := by decide +kernel
theorem cho7_2 : allExt 7 chkO 6 [2] = true := by decide +kernel
end Go.Proofs.Ytjfhogholmabfaa.Pure
