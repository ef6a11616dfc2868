-- CUT by a program of this session: what the claim does not use is left out
import Derived.Test.YtjfhogholmabfaaDoorG1
namespace Go.Proofs.YtjfhogholmabfaaDoor.Pure
set_option maxRecDepth 100000
theorem ch7_60 : allExt 7 chk 5 [6, 0] = true := by decide +kernel
theorem ch7_61 : allExt 7 chk 5 [6, 1] = true := by decide +kernel
theorem ch7_62 : allExt 7 chk 5 [6, 2] = true := by decide +kernel
theorem ch7_63 : allExt 7 chk 5 [6, 3] = true := by decide +kernel
theorem ch7_64 : allExt 7 chk 5 [6, 4] = true := by decide +kernel
theorem ch7_65 : allExt 7 chk 5 [6, 5] = true := by decide +kernel
theorem ch7_6 : allExt 7 chk 6 [6] = true := allExt_of (to6 (P := fun i => (i : Int) ∈ [6] ∨ allExt 7 chk 5 ([(6 : Int)] ++ [(i : Int)]) = true) (.inr ch7_60) (.inr ch7_61) (.inr ch7_62) (.inr ch7_63) (.inr ch7_64) (.inr ch7_65) (.inl (by decide)))
end Go.Proofs.YtjfhogholmabfaaDoor.Pure
