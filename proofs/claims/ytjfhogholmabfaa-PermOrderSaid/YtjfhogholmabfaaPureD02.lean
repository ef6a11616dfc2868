/- All permutations of six and seven points: orders. -/
import Derived.Test.YtjfhogholmabfaaPureD0
namespace Go.Proofs.Ytjfhogholmabfaa.Pure
set_option maxRecDepth 100000
theorem cho6 : allExt 6 chkO 6 [] = true := by decide +kernel
theorem cho7_3 : allExt 7 chkO 6 [3] = true := by decide +kernel
theorem cho7_4 : allExt 7 chkO 6 [4] = true := by decide +kernel
end Go.Proofs.Ytjfhogholmabfaa.Pure
