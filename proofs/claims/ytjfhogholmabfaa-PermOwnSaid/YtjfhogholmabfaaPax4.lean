-- CUT by a program of this session: what the claim does not use is left out
import Derived.Test.YtjfhogholmabfaaPax0
import Derived.Test.YtjfhogholmabfaaPax1
import Derived.Test.YtjfhogholmabfaaPax2
import Derived.Test.YtjfhogholmabfaaPax3
namespace Go.Proofs.Ytjfhogholmabfaa.Pa
open Go.Proofs.Ytjfhogholmabfaa.Giv
open Go.RowKit Go.Proofs.YtjfhogholmabfaaW.PrintWords Go.Proofs.YtjfhogholmabfaaW.PrintLast Go.Proofs.YtjfhogholmabfaaW.PrintMore
attribute [local go_sem] max2_int min2_int max_two min_two max_three min_three max_four min_four   -- for this text's walks alone
set_option linter.unusedVariables false
set_option linter.unusedSimpArgs false

def perm_Identity.f (k : Nat) (a0 : Int) : Option (List Int × Int) := if a0 < 1 then (some (([] : List Int), 2)) else (if a0 > 7 then (some (([] : List Int), 2)) else ((perm_identity.f k a0).bind fun t244 => (some (t244, 0))))
theorem perm_Identity.mono : ∀ a0 k, LeO (perm_Identity.f k a0) (perm_Identity.f (k + 1) a0) := by
  intro a0 k
  unfold perm_Identity.f
  repeat' first
      | (with_reducible exact perm_identity.mono _ _)
      | (with_reducible exact LeO.refl _)
      | (with_reducible exact LeO.none _)
      | (with_reducible refine LeO.ite ?_ ?_)
      | (with_reducible refine LeO.bind ?_ (fun _ => ?_))
      | exact perm_identity.mono _ _
      | exact LeO.none _
      | refine LeO.ite ?_ ?_
      | refine LeO.bind ?_ (fun _ => ?_)
end Go.Proofs.Ytjfhogholmabfaa.Pa
