-- CUT by a program of this session: what the claim does not use is left out
import Derived.Test.YtjfhogholmabfaaPax0
import Derived.Test.YtjfhogholmabfaaPax2
import Derived.Test.YtjfhogholmabfaaPax4
namespace Go.Proofs.Ytjfhogholmabfaa.Pa
open Go.Proofs.Ytjfhogholmabfaa.Giv
open Go.RowKit Go.Proofs.YtjfhogholmabfaaW.PrintWords Go.Proofs.YtjfhogholmabfaaW.PrintLast Go.Proofs.YtjfhogholmabfaaW.PrintMore
attribute [local go_sem] max2_int min2_int max_two min_two max_three min_three max_four min_four   -- for this text's walks alone
set_option linter.unusedVariables false
set_option linter.unusedSimpArgs false

end Go.Proofs.Ytjfhogholmabfaa.Pa
