-- CUT by a program of this session: what the claim does not use is left out
import Derived.Test.YtjfhogholmabfaaDoorG1
namespace Go.Proofs.YtjfhogholmabfaaDoor.Pure
set_option maxRecDepth 100000
theorem ch7_10 : allExt 7 chk 5 [1, 0] = true := by decide +kernel
theorem ch7_12 : allExt 7 chk 5 [1, 2] = true := by decide +kernel
theorem ch7_13 : allExt 7 chk 5 [1, 3] = true := by decide +kernel
theorem ch7_14 : allExt 7 chk 5 [1, 4] = true := by decide +kernel
theorem ch7_15 : allExt 7 chk 5 [1, 5] = true := by decide +kernel
theorem ch7_16 : allExt 7 chk 5 [1, 6] = true := by decide +kernel
theorem ch7_1 : allExt 7 chk 6 [1] = true := allExt_of (to6 (P := fun i => (i : Int) ∈ [1] ∨ allExt 7 chk 5 ([(1 : Int)] ++ [(i : Int)]) = true) (.inr ch7_10) (.inl (by decide)) (.inr ch7_12) (.inr ch7_13) (.inr ch7_14) (.inr ch7_15) (.inr ch7_16))
theorem ch6_1 : allExt 6 chk 5 [1] = true := by decide +kernel
end Go.Proofs.YtjfhogholmabfaaDoor.Pure
