/- All permutations of seven points: orders. -/
import Derived.Test.YtjfhogholmabfaaPureD0
namespace Go.Proofs.Ytjfhogholmabfaa.Pure
set_option maxRecDepth 100000
theorem cho7_5 : allExt 7 chkO 6 [5] = true := by decide +kernel
theorem cho7_6 : allExt 7 chkO 6 [6] = true := by decide +kernel
end Go.Proofs.Ytjfhogholmabfaa.Pure
