-- CUT by a program of this session: what the claim does not use is left out
import Derived.Test.YtfoodfhhdbaieaaDoorM15
import Derived.Test.YtfoodfhhdbaieaaDoorM10
namespace Go.Proofs.YtfoodfhhdbaieaaDoor.Giv
set_option maxRecDepth 100000
set_option linter.unusedVariables false
set_option linter.unusedSimpArgs false
open Go.RowKit Go.Shelf Go.Proofs.YtfoodfhhdbaieaaDoorW.PrintWords Go.Proofs.YtfoodfhhdbaieaaDoorW.PrintLast Go.Proofs.YtfoodfhhdbaieaaDoorW.PrintMore
open Go.Proofs.YtfoodfhhdbaieaaDoor.Ka (S40 k40 z40 rd_T40 at_T40 k40_open k40_mk rd_L1 at_L1 info3 info38 info40)
theorem numsB_cons (y : Int) (l : List Int) : numsB (y :: l) = Lib.itoa y ++ listB l := by
 unfold numsB listB
 rw [List.mapIdx_cons, List.flatten_cons]
 congr 1
 congr 1
 apply List.ext_getElem
 ·simp
 ·intro i h1 h2
  simp [numB]
end Go.Proofs.YtfoodfhhdbaieaaDoor.Giv
