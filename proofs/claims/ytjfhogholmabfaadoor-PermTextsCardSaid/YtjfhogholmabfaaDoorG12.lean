-- CUT by a program of this session: what the claim does not use is left out
import Derived.Test.YtjfhogholmabfaaDoorG1
namespace Go.Proofs.YtjfhogholmabfaaDoor.Pure
set_option maxRecDepth 100000
theorem ch7_20 : allExt 7 chk 5 [2, 0] = true := by decide +kernel
theorem ch7_21 : allExt 7 chk 5 [2, 1] = true := by decide +kernel
theorem ch7_23 : allExt 7 chk 5 [2, 3] = true := by decide +kernel
theorem ch7_24 : allExt 7 chk 5 [2, 4] = true := by decide +kernel
theorem ch7_25 : allExt 7 chk 5 [2, 5] = true := by decide +kernel
theorem ch7_26 : allExt 7 chk 5 [2, 6] = true := by decide +kernel
theorem ch7_2 : allExt 7 chk 6 [2] = true := allExt_of (to6 (P := fun i => (i : Int) ∈ [2] ∨ allExt 7 chk 5 ([(2 : Int)] ++ [(i : Int)]) = true) (.inr ch7_20) (.inr ch7_21) (.inl (by decide)) (.inr ch7_23) (.inr ch7_24) (.inr ch7_25) (.inr ch7_26))
theorem ch6_2 : allExt 6 chk 5 [2] = true := by decide +kernel
end Go.Proofs.YtjfhogholmabfaaDoor.Pure
