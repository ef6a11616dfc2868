-- CUT by a program of this session: what the claim does not use is left out
import Derived.Test.YtjfhogholmabfaaDoorG1
namespace Go.Proofs.YtjfhogholmabfaaDoor.Pure
set_option maxRecDepth 100000
theorem ch7_40 : allExt 7 chk 5 [4, 0] = true := by decide +kernel
theorem ch7_41 : allExt 7 chk 5 [4, 1] = true := by decide +kernel
theorem ch7_42 : allExt 7 chk 5 [4, 2] = true := by decide +kernel
theorem ch7_43 : allExt 7 chk 5 [4, 3] = true := by decide +kernel
theorem ch7_45 : allExt 7 chk 5 [4, 5] = true := by decide +kernel
theorem ch7_46 : allExt 7 chk 5 [4, 6] = true := by decide +kernel
theorem ch7_4 : allExt 7 chk 6 [4] = true := allExt_of (to6 (P := fun i => (i : Int) ∈ [4] ∨ allExt 7 chk 5 ([(4 : Int)] ++ [(i : Int)]) = true) (.inr ch7_40) (.inr ch7_41) (.inr ch7_42) (.inr ch7_43) (.inl (by decide)) (.inr ch7_45) (.inr ch7_46))
theorem ch6_4 : allExt 6 chk 5 [4] = true := by decide +kernel
end Go.Proofs.YtjfhogholmabfaaDoor.Pure
