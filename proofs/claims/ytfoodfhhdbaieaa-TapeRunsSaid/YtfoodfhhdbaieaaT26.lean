-- CUT by a program of this session: what the claim does not use is left out
import Derived.Test.YtfoodfhhdbaieaaT24
namespace Go.Proofs.Ytfoodfhhdbaieaa.Giv
set_option linter.unusedSimpArgs false
set_option linter.unusedVariables false
set_option linter.unusedSectionVars false
open Go.RowKit Go.Shelf Go.Proofs.YtfoodfhhdbaieaaW.PrintWords Go.Proofs.YtfoodfhhdbaieaaW.PrintLast Go.Proofs.YtfoodfhhdbaieaaW.PrintMore
open Go.Proofs.Ytfoodfhhdbaieaa.Ka (S54 k54 z54 rd_T54 at_T54 k54_open k54_mk rd_L1 at_L1 info3 info25 info54)

def goodL (p b c d : Bool) : Bool := (!c || (p && b)) && (!d || c)
def cntL (p b c d e : Bool) : Nat := p.toNat + b.toNat + c.toNat + d.toNat + e.toNat
def LawStep (bits : Bool → Bool → Bool → Bool → Bool → Array Bool) (i8 i13 : Nat) (p b c d e : Bool) (i : Nat) : Prop :=
  (i = 2 ∧ p = false ∧ goodL true b c d = true ∧ cntL true b c d e = cntL p b c d e + 1 ∧ (bits p b c d e).setIfInBounds i true = bits true b c d e) ∨
  (i = 3 ∧ b = false ∧ goodL p true c d = true ∧ cntL p true c d e = cntL p b c d e + 1 ∧ (bits p b c d e).setIfInBounds i true = bits p true c d e) ∨
  (i = 6 ∧ p = true ∧ b = true ∧ c = false ∧ goodL p b true d = true ∧ cntL p b true d e = cntL p b c d e + 1 ∧ (bits p b c d e).setIfInBounds i true = bits p b true d e) ∨
  (i = i8 ∧ p = true ∧ b = true ∧ c = true ∧ d = false ∧ goodL p b c true = true ∧ cntL p b c true e = cntL p b c d e + 1 ∧ (bits p b c d e).setIfInBounds i true = bits p b c true e) ∨
  (i = i13 ∧ e = false ∧ goodL p b c d = true ∧ cntL p b c d true = cntL p b c d e + 1 ∧ (bits p b c d e).setIfInBounds i true = bits p b c d true)
instance (bits : Bool → Bool → Bool → Bool → Bool → Array Bool) (i8 i13 : Nat) (p b c d e : Bool) (i : Nat) : Decidable (LawStep bits i8 i13 p b c d e i) := by unfold LawStep; infer_instance
structure Slots (s2 s3 s6 s8 s13 n : Nat) : Prop where
  n23 : s2 ≠ s3
  n26 : s2 ≠ s6
  n28 : s2 ≠ s8
  n2e : s2 ≠ s13
  n36 : s3 ≠ s6
  n38 : s3 ≠ s8
  n3e : s3 ≠ s13
  n68 : s6 ≠ s8
  n6e : s6 ≠ s13
  n8e : s8 ≠ s13
  l2 : s2 < n
  l3 : s3 < n
  l6 : s6 < n
section
variable {s2 s3 s6 s8 s13 n : Nat} (h : Slots s2 s3 s6 s8 s13 n) (a : Act) (x2 x3 x6 x8 x13 x : Value)
include h
end
end Go.Proofs.Ytfoodfhhdbaieaa.Giv
