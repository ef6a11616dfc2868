-- CUT by a program of this session: what the claim does not use is left out
import Derived.Test.YtjfhogholmabfaaDoorG1
namespace Go.Proofs.YtjfhogholmabfaaDoor.Pure
set_option maxRecDepth 100000
theorem ch7_01 : allExt 7 chk 5 [0, 1] = true := by decide +kernel
theorem ch7_02 : allExt 7 chk 5 [0, 2] = true := by decide +kernel
theorem ch7_03 : allExt 7 chk 5 [0, 3] = true := by decide +kernel
theorem ch7_04 : allExt 7 chk 5 [0, 4] = true := by decide +kernel
theorem ch7_05 : allExt 7 chk 5 [0, 5] = true := by decide +kernel
theorem ch7_06 : allExt 7 chk 5 [0, 6] = true := by decide +kernel
theorem ch7_0 : allExt 7 chk 6 [0] = true := allExt_of (to6 (P := fun i => (i : Int) ∈ [0] ∨ allExt 7 chk 5 ([(0 : Int)] ++ [(i : Int)]) = true) (.inl (by decide)) (.inr ch7_01) (.inr ch7_02) (.inr ch7_03) (.inr ch7_04) (.inr ch7_05) (.inr ch7_06))
theorem ch6_0 : allExt 6 chk 5 [0] = true := by decide +kernel
end Go.Proofs.YtjfhogholmabfaaDoor.Pure
