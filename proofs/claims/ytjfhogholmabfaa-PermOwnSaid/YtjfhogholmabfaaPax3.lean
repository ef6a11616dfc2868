-- CUT by a program of this session: what the claim does not use is left out
import Derived.Test.YtjfhogholmabfaaPax0
namespace Go.Proofs.Ytjfhogholmabfaa.Pa
open Go.Proofs.Ytjfhogholmabfaa.Giv
open Go.RowKit Go.Proofs.YtjfhogholmabfaaW.PrintWords Go.Proofs.YtjfhogholmabfaaW.PrintLast Go.Proofs.YtjfhogholmabfaaW.PrintMore
attribute [local go_sem] max2_int min2_int max_two min_two max_three min_three max_four min_four   -- for this text's walks alone
set_option linter.unusedVariables false
set_option linter.unusedSimpArgs false

mutual
def commodatumref01_Valid.j0 : Nat → List Int → Bool → Option (Bool)
  | 0, _, _ => none
  | k + 1, x0, x12 => if x12 = true then (some false) else (commodatumref01_Valid.l0 k x0 0)
def commodatumref01_Valid.l0 : Nat → List Int → Int → Option (Bool)
  | 0, _, _ => none
  | k + 1, x0, x3 => if x3 < (x0.length : Int) then (if 0 ≤ x3 then (if (rd x0 x3) < 0 then (commodatumref01_Valid.j2 k x0 x3 true) else (commodatumref01_Valid.j2 k x0 x3 (decide ((rd x0 x3) ≥ (x0.length : Int))))) else (none)) else (some true)
def commodatumref01_Valid.j2 : Nat → List Int → Int → Bool → Option (Bool)
  | 0, _, _, _ => none
  | k + 1, x0, x3, x32 => if x32 = true then (some false) else (commodatumref01_Valid.l1 k x0 x3 0)
def commodatumref01_Valid.l1 : Nat → List Int → Int → Int → Option (Bool)
  | 0, _, _, _ => none
  | k + 1, x0, x3, x4 => if x4 < x3 then (if 0 ≤ x4 then (if x4 < (x0.length : Int) then (if 0 ≤ x3 then (if x3 < (x0.length : Int) then (if (rd x0 x4) = (rd x0 x3) then (some false) else (commodatumref01_Valid.l1 k x0 x3 (wrap64 (x4 + 1)))) else (none)) else (none)) else (none)) else (none)) else (commodatumref01_Valid.l0 k x0 (wrap64 (x3 + 1)))
end
def commodatumref01_Valid.f (k : Nat) (l0 : List Int) : Option (Bool) := if (l0.length : Int) < 1 then (commodatumref01_Valid.j0 k l0 true) else (commodatumref01_Valid.j0 k l0 (decide ((l0.length : Int) > 7)))
def commodatumref01_Alike.j0 : Nat → List Int → List Int → Bool → Option (Int)
  | 0, _, _, _ => none
  | k + 1, x0, x1, x12 => if x12 = true then (some 1) else (if (x0.length : Int) = (x1.length : Int) then (some 0) else (some 2))
def commodatumref01_Alike.f (k : Nat) (l0 : List Int) (l1 : List Int) : Option (Int) := (commodatumref01_Valid.f k l0).bind fun t192 => (if t192 = true then ((commodatumref01_Valid.f k l1).bind fun t193 => (commodatumref01_Alike.j0 k l0 l1 (!t193))) else (commodatumref01_Alike.j0 k l0 l1 true))
end Go.Proofs.Ytjfhogholmabfaa.Pa
