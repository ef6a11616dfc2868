-- CUT by a program of this session from a text printed by the kit's print
import Derived.Test.YtfoodfhhdbaieaaKax0
import Derived.Test.YtfoodfhhdbaieaaKax1
namespace Go.Proofs.Ytfoodfhhdbaieaa.Ka
open Go.RowKit Go.Proofs.YtfoodfhhdbaieaaW.PrintWords Go.Proofs.YtfoodfhhdbaieaaW.PrintLast Go.Proofs.YtfoodfhhdbaieaaW.PrintMore
attribute [local go_sem] max2_int min2_int max_two min_two max_three min_three max_four min_four   -- for this text's walks alone
set_option linter.unusedVariables false
set_option linter.unusedSimpArgs false





end Go.Proofs.Ytfoodfhhdbaieaa.Ka
