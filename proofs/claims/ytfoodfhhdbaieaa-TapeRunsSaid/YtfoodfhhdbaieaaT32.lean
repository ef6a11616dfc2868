-- CUT by a program of this session: what the claim does not use is left out
import Derived.Test.YtfoodfhhdbaieaaT26
namespace Go.Proofs.Ytfoodfhhdbaieaa.Giv
set_option linter.unusedSimpArgs false
set_option linter.unusedVariables false
set_option linter.unusedSectionVars false
open Go.RowKit Go.Shelf Go.Proofs.YtfoodfhhdbaieaaW.PrintWords Go.Proofs.YtfoodfhhdbaieaaW.PrintLast Go.Proofs.YtfoodfhhdbaieaaW.PrintMore
open Go.Proofs.Ytfoodfhhdbaieaa.Ka (S54 k54 z54 rd_T54 at_T54 k54_open k54_mk rd_L1 at_L1 info3 info25 info54)

def LawStepG (bits : Bool → Bool → Bool → Bool → Bool → Array Bool) (i2 i3 i6 i8 i13 : Nat) (p b c d e : Bool) (i : Nat) : Prop :=
  (i = i2 ∧ p = false ∧ goodL true b c d = true ∧ cntL true b c d e = cntL p b c d e + 1 ∧ (bits p b c d e).setIfInBounds i true = bits true b c d e) ∨
  (i = i3 ∧ b = false ∧ goodL p true c d = true ∧ cntL p true c d e = cntL p b c d e + 1 ∧ (bits p b c d e).setIfInBounds i true = bits p true c d e) ∨
  (i = i6 ∧ p = true ∧ b = true ∧ c = false ∧ goodL p b true d = true ∧ cntL p b true d e = cntL p b c d e + 1 ∧ (bits p b c d e).setIfInBounds i true = bits p b true d e) ∨
  (i = i8 ∧ p = true ∧ b = true ∧ c = true ∧ d = false ∧ goodL p b c true = true ∧ cntL p b c true e = cntL p b c d e + 1 ∧ (bits p b c d e).setIfInBounds i true = bits p b c true e) ∨
  (i = i13 ∧ e = false ∧ goodL p b c d = true ∧ cntL p b c d true = cntL p b c d e + 1 ∧ (bits p b c d e).setIfInBounds i true = bits p b c d true)
instance (bits : Bool → Bool → Bool → Bool → Bool → Array Bool) (i2 i3 i6 i8 i13 : Nat) (p b c d e : Bool) (i : Nat) : Decidable (LawStepG bits i2 i3 i6 i8 i13 p b c d e i) := by unfold LawStepG; infer_instance
end Go.Proofs.Ytfoodfhhdbaieaa.Giv
