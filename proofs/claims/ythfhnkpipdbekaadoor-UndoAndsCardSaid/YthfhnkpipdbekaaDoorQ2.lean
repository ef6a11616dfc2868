-- CUT by a program of this session: what the claim does not use is left out
import Derived.Test.YthfhnkpipdbekaaDoorN5
import Derived.Test.YthfhnkpipdbekaaDoorQ1
namespace Go.Proofs.YthfhnkpipdbekaaDoor.Giv
set_option linter.unusedVariables false
set_option linter.unusedSimpArgs false
open Go.RowKit Go.Shelf Go.Proofs.YthfhnkpipdbekaaDoorW.PrintWords Go.Proofs.YthfhnkpipdbekaaDoorW.PrintLast Go.Proofs.YthfhnkpipdbekaaDoorW.PrintMore
open Go.Proofs.YthfhnkpipdbekaaDoor.Ua (S67 k67 z67 rd_T67 at_T67)
theorem rd_set_same {x : List Bool} {a : Int} {v : Bool} (h : a.toNat < x.length) : rdOf false (x.set a.toNat v) a = v := by
 simp [rdOf, List.getD_eq_getElem?_getD, List.getElem?_set, h]
theorem rd_set_other {x : List Bool} {a b : Int} {v : Bool} (ha : 0 ≤ a) (hb : 0 ≤ b) (h : a ≠ b) : rdOf false (x.set a.toNat v) b = rdOf false x b := by
 have : ¬ a.toNat = b.toNat := by omega
 simp [rdOf, List.getD_eq_getElem?_getD, List.getElem?_set, this]
theorem runL_app (x : List Bool) (l m : List S67) : runL x (l ++ m) = runL (runL x l) m := List.foldl_append
end Go.Proofs.YthfhnkpipdbekaaDoor.Giv
