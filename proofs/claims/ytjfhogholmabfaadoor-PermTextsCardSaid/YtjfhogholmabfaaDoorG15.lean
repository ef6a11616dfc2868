-- CUT by a program of this session: what the claim does not use is left out
import Derived.Test.YtjfhogholmabfaaDoorG1
namespace Go.Proofs.YtjfhogholmabfaaDoor.Pure
set_option maxRecDepth 100000
theorem ch7_50 : allExt 7 chk 5 [5, 0] = true := by decide +kernel
theorem ch7_51 : allExt 7 chk 5 [5, 1] = true := by decide +kernel
theorem ch7_52 : allExt 7 chk 5 [5, 2] = true := by decide +kernel
theorem ch7_53 : allExt 7 chk 5 [5, 3] = true := by decide +kernel
theorem ch7_54 : allExt 7 chk 5 [5, 4] = true := by decide +kernel
theorem ch7_56 : allExt 7 chk 5 [5, 6] = true := by decide +kernel
theorem ch7_5 : allExt 7 chk 6 [5] = true := allExt_of (to6 (P := fun i => (i : Int) ∈ [5] ∨ allExt 7 chk 5 ([(5 : Int)] ++ [(i : Int)]) = true) (.inr ch7_50) (.inr ch7_51) (.inr ch7_52) (.inr ch7_53) (.inr ch7_54) (.inl (by decide)) (.inr ch7_56))
theorem ch6_5 : allExt 6 chk 5 [5] = true := by decide +kernel
end Go.Proofs.YtjfhogholmabfaaDoor.Pure
