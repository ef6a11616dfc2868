/- All permutations of seven points, by their first point. -/
import Derived.Test.YtjfhogholmabfaaPureC0
namespace Go.Proofs.Ytjfhogholmabfaa.Pure
set_option maxRecDepth 100000
theorem chk7_0 : allExt 7 chkV 6 [0] = true := by decide +kernel
theorem chk7_1 : allExt 7 chkV 6 [1] = true := by decide +kernel
theorem chk7_2 : allExt 7 chkV 6 [2] = true := by decide +kernel
end Go.Proofs.Ytjfhogholmabfaa.Pure
