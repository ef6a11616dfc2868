-- CUT by a program of this session: what the claim does not use is left out
import Derived.Test.YtfoodfhhdbaieaaDoorM16
import Derived.Test.YtfoodfhhdbaieaaDoorM11
import Derived.Test.YtfoodfhhdbaieaaDoorKax1
import Derived.Test.YtfoodfhhdbaieaaDoorT43
import Derived.Test.YtfoodfhhdbaieaaDoorT25
namespace Go.Proofs.YtfoodfhhdbaieaaDoor.Giv
set_option maxRecDepth 100000
set_option linter.unusedVariables false
set_option linter.unusedSimpArgs false
open Go.RowKit Go.Shelf Go.Proofs.YtfoodfhhdbaieaaDoorW.PrintWords Go.Proofs.YtfoodfhhdbaieaaDoorW.PrintLast Go.Proofs.YtfoodfhhdbaieaaDoorW.PrintMore
open Go.Proofs.YtfoodfhhdbaieaaDoor.Ka (S40 k40 z40 rd_T40 at_T40 k40_open k40_mk rd_L1 at_L1 info3 info38 info40)
theorem ruleB_from {a0 a1 a2 : Int} {r : S40} (h : ruleB a0 a1 a2 r = true) : 0 ≤ r.f0 := by
 unfold ruleB at h
 simp only [Bool.and_eq_true] at h
 exact (inR_bd' h.1.1.1.1.1.1.1).1
theorem valid_from {a0 a1 a2 : Int} {l : List S40} (h : validM a0 a1 a2 l = true) : ∀ r ∈ l, 0 ≤ r.f0 := by
 unfold validM at h
 rw [Bool.and_eq_true] at h
 exact fun r hr => ruleB_from (rulesB_all _ _ h.2 r hr)
end Go.Proofs.YtfoodfhhdbaieaaDoor.Giv
