-- CUT by a program of this session: what the claim does not use is left out
import Derived.Test.YtfoodfhhdbaieaaDoorM34
import Derived.Test.YtfoodfhhdbaieaaDoorM15
import Derived.Test.YtfoodfhhdbaieaaDoorM29
import Derived.Test.YtfoodfhhdbaieaaDoorM12
import Derived.Test.YtfoodfhhdbaieaaDoorM30
import Derived.Test.YtfoodfhhdbaieaaDoorM16
import Derived.Test.YtfoodfhhdbaieaaDoorT43
import Derived.Test.YtfoodfhhdbaieaaDoorM11
import Derived.Test.YtfoodfhhdbaieaaDoorM18
import Derived.Test.YtfoodfhhdbaieaaDoorT25
import Derived.Test.YtfoodfhhdbaieaaDoorM38
namespace Go.Proofs.YtfoodfhhdbaieaaDoor.Giv
set_option maxRecDepth 100000
set_option linter.unusedVariables false
set_option linter.unusedSimpArgs false
open Go.RowKit Go.Shelf Go.Proofs.YtfoodfhhdbaieaaDoorW.PrintWords Go.Proofs.YtfoodfhhdbaieaaDoorW.PrintLast Go.Proofs.YtfoodfhhdbaieaaDoorW.PrintMore
open Go.Proofs.YtfoodfhhdbaieaaDoor.Ka (S40 k40 z40 rd_T40 at_T40 k40_open k40_mk rd_L1 at_L1 info3 info38 info40)
open Go.Proofs.YtfoodfhhdbaieaaDoor.Pure
theorem set4_get {W : World} {g : Nat} {z0 z1 z2 z3 : Value} (h : W.heap[g]? = some (.cells #[z0, z1, z2, z3] 24 (0, 0))) (c0 c1 c2 c3 : Value) :
  ((((W.setCell ⟨g, 0, none⟩ c0).setCell ⟨g, 1, none⟩ c1).setCell ⟨g, 2, none⟩ c2).setCell ⟨g, 3, none⟩ c3).heap[g]? = some (.cells #[c0, c1, c2, c3] 24 (0, 0)) :=
 blk_set (blk_set (blk_set (blk_set h 0 c0) 1 c1) 2 c2) 3 c3
theorem set4_other {W : World} {g k : Nat} (h : k ≠ g) (c0 c1 c2 c3 : Value) :
  ((((W.setCell ⟨g, 0, none⟩ c0).setCell ⟨g, 1, none⟩ c1).setCell ⟨g, 2, none⟩ c2).setCell ⟨g, 3, none⟩ c3).heap[k]? = W.heap[k]? :=
 ((Below.heap_setCell _ _ _ _ (by exact h)).trans ((Below.heap_setCell _ _ _ _ (by exact h)).trans ((Below.heap_setCell _ _ _ _ (by exact h)).trans (Below.heap_setCell _ _ _ _ (by exact h)))))
theorem set4_below {w W : World} {g : Nat} (h : Below w.heap.size w W) (hg : w.heap.size ≤ g) (c0 c1 c2 c3 : Value) :
  Below w.heap.size w ((((W.setCell ⟨g, 0, none⟩ c0).setCell ⟨g, 1, none⟩ c1).setCell ⟨g, 2, none⟩ c2).setCell ⟨g, 3, none⟩ c3) :=
 below_set (below_set (below_set (below_set h hg) hg) hg) hg
theorem set4_rows {W : World} {base g : Nat} {v z0 z1 z2 z3 : Value} {rs : List S40} (hr : RowsAt W base v rs) (h : W.heap[g]? = some (.cells #[z0, z1, z2, z3] 24 (0, 0))) (c0 c1 c2 c3 : Value) :
  RowsAt ((((W.setCell ⟨g, 0, none⟩ c0).setCell ⟨g, 1, none⟩ c1).setCell ⟨g, 2, none⟩ c2).setCell ⟨g, 3, none⟩ c3) base v rs :=
 (((hr.set h).set (blk_set h 0 c0)).set (blk_set (blk_set h 0 c0) 1 c1)).set (blk_set (blk_set (blk_set h 0 c0) 1 c1) 2 c2)
end Go.Proofs.YtfoodfhhdbaieaaDoor.Giv
