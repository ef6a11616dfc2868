/- All permutations of seven points, by their first point. -/
import Derived.Test.YtjfhogholmabfaaPureC0
namespace Go.Proofs.Ytjfhogholmabfaa.Pure
set_option maxRecDepth 100000
theorem chk7_3 : allExt 7 chkV 6 [3] = true := by decide +kernel
theorem chk7_4 : allExt 7 chkV 6 [4] = true := by decide +kernel
end Go.Proofs.Ytjfhogholmabfaa.Pure
