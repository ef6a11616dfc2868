-- CUT by a program of this session: what the claim does not use is left out
import Derived.Test.YtjfhogholmabfaaDoorG1
namespace Go.Proofs.YtjfhogholmabfaaDoor.Pure
set_option maxRecDepth 100000
theorem ch7_30 : allExt 7 chk 5 [3, 0] = true := by decide +kernel
theorem ch7_31 : allExt 7 chk 5 [3, 1] = true := by decide +kernel
theorem ch7_32 : allExt 7 chk 5 [3, 2] = true := by decide +kernel
theorem ch7_34 : allExt 7 chk 5 [3, 4] = true := by decide +kernel
theorem ch7_35 : allExt 7 chk 5 [3, 5] = true := by decide +kernel
theorem ch7_36 : allExt 7 chk 5 [3, 6] = true := by decide +kernel
theorem ch7_3 : allExt 7 chk 6 [3] = true := allExt_of (to6 (P := fun i => (i : Int) ∈ [3] ∨ allExt 7 chk 5 ([(3 : Int)] ++ [(i : Int)]) = true) (.inr ch7_30) (.inr ch7_31) (.inr ch7_32) (.inl (by decide)) (.inr ch7_34) (.inr ch7_35) (.inr ch7_36))
theorem ch6_3 : allExt 6 chk 5 [3] = true := by decide +kernel
end Go.Proofs.YtjfhogholmabfaaDoor.Pure
