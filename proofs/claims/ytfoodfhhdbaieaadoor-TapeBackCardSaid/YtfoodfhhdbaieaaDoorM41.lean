-- CUT by a program of this session: what the claim does not use is left out
import Derived.Test.YtfoodfhhdbaieaaDoorM21
import Derived.Shelf.Vars
namespace Go.Proofs.YtfoodfhhdbaieaaDoor.Giv
set_option maxRecDepth 100000
set_option linter.unusedVariables false
set_option linter.unusedSimpArgs false
open Go.ChangeShapes Go.WideShapes Go.RowKit Go.Shelf
theorem laidP_of {W : World} {l : List (String × DataW Unit)} (hl : laidMetH Tryd.prog l W) (hsh : W.ShapedOpen Tryd.prog)
  (h1 : l.filter (fun x => x.1 == "internal/strconv.uint64pow10") = [("internal/strconv.uint64pow10", Lib.tabData .u64 Lib.pow10Tab)])
  (h3 : l.filter (fun x => x.1 == "strconv.ErrSyntax") = [("strconv.ErrSyntax", Rows.laid_strconv_ErrSyntax)]) (h4 : l.filter (fun x => x.1 == "strconv.ErrRange") = [("strconv.ErrRange", Rows.laid_strconv_ErrRange)]) : LaidP W where
 lay := laid_of hl h1
 len := cell_of_shapedOpen_int (zero := #[.int .i64 0]) (t := 3) hsh (of_decide_eq_true (by kernel_rfl)) (by kernel_rfl) rfl (by kernel_rfl) (by kernel_rfl) Tryd.underlying3
 syn := iface_of (g := 4) (t := 78) hl h3 (by kernel_rfl) (by kernel_rfl) (by kernel_rfl) Tryd.underlying78
 ran := iface_of (g := 5) (t := 78) hl h4 (by kernel_rfl) (by kernel_rfl) (by kernel_rfl) Tryd.underlying78
theorem laid_back {W : World} (hl : laidMetH Tryd.prog Rows.tapeBackRow.laid W) (hsh : W.ShapedOpen Tryd.prog) : LaidP W := laidP_of hl hsh (by kernel_rfl) (by kernel_rfl) (by kernel_rfl)
end Go.Proofs.YtfoodfhhdbaieaaDoor.Giv
