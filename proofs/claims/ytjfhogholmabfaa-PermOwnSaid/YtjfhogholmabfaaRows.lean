/-
  No cell of these rows narrows 'for every input' (looked for: loops, veiled, ifaces, maps, wideKeys, modest, calm, conditions, laid).
  DERIVED. THE GIVEN ROWS OF THIS SEAT. 10 by the template 'for every input the law returns true; each argument reads behind the call as it read before'; 0 by the template 'total and deterministic' (their statements: YtjfhogholmabfaaTotals.lean).
  GIVEN WITH THE SEED: the statements are not yours to turn. If you find one false, say at which input.
  Laid BY PROGRAM, IN A SANDBOX (cutbox-rows.mjs): the forced cells as the released guide's own fill.sh prints them over the translation d835880e5b7add7d… (all of the seat's roots in one cut). By AI agents, Wed Nov 11 2026. No macro, syntax, notation, axiom, sorry.
-/
import Derived.Test.YtjfhogholmabfaaChecked
import GoSem.Claim
import GoSem.ClaimJoined
import GoSem.ClaimMapViews
import Derived.JoinedTies
import Derived.KernelRfl
namespace Go.Proofs.Ytjfhogholmabfaa
/- THE CELL 'sum', in the pinned program and in every row, IS THE sha256 OF THE DUMP (.gsa) THAT YtjfhogholmabfaaProg.lean LOADS. Nothing in Lean hashes anything: it is a label: what it is worth is what the hold of that sum in a sandbox is worth. -/
noncomputable def Try.pinned : Pinned := { name := "ytjfhogholmabfaa", sum := "d835880e5b7add7da51fef8b99f1045fe2c0a50969582775fd17e5b38f74fdff", checked := Try.checked }
namespace Rows
def none {H : Type} : Left H := { results := [], args := [] }

/-- 'commodatumlaw01.PermMuls': WHATEVER THE INPUT: true; the input reads as it did. -/
def permMulsSpec : ChangeSpec := { name := "permMuls", fn := fun _ => fun
  | [d1, d2] => { results := [.lit (.bool true)], args := [d1, d2] }
  | _ => none }
def permMulsRow : OpenClaim := { program := "ytjfhogholmabfaa", sum := "d835880e5b7add7da51fef8b99f1045fe2c0a50969582775fd17e5b38f74fdff", func := "commodatum/commodatumlaw01.PermMuls", spec := "permMuls", apart := false }
def PermMulsSaid : Prop := permMulsRow.holds Try.pinned (OpenSpec.ofChange permMulsSpec)

/-- ITS FALSE NEIGHBOUR: 'it returns false'. Refute it at one input. -/
def permMulsWrong : ChangeSpec := { name := "permMuls", fn := fun _ => fun
  | [d1, d2] => { results := [.lit (.bool false)], args := [d1, d2] }
  | _ => none }
def PermMulsWrongFalsely : Prop := permMulsRow.holds Try.pinned (OpenSpec.ofChange permMulsWrong)

/-- 'commodatumlaw01.PermMakes': WHATEVER THE INPUT: true; the input reads as it did. -/
def permMakesSpec : ChangeSpec := { name := "permMakes", fn := fun _ => fun
  | [d1, d2] => { results := [.lit (.bool true)], args := [d1, d2] }
  | _ => none }
def permMakesRow : OpenClaim := { program := "ytjfhogholmabfaa", sum := "d835880e5b7add7da51fef8b99f1045fe2c0a50969582775fd17e5b38f74fdff", func := "commodatum/commodatumlaw01.PermMakes", spec := "permMakes", recurses := true, apart := false }
def PermMakesSaid : Prop := permMakesRow.holds Try.pinned (OpenSpec.ofChange permMakesSpec)

/-- ITS FALSE NEIGHBOUR: 'it returns false'. Refute it at one input. -/
def permMakesWrong : ChangeSpec := { name := "permMakes", fn := fun _ => fun
  | [d1, d2] => { results := [.lit (.bool false)], args := [d1, d2] }
  | _ => none }
def PermMakesWrongFalsely : Prop := permMakesRow.holds Try.pinned (OpenSpec.ofChange permMakesWrong)

/-- 'commodatumlaw01.PermPowers': WHATEVER THE INPUT: true; the input reads as it did. -/
def permPowersSpec : ChangeSpec := { name := "permPowers", fn := fun _ => fun
  | [d1, d2] => { results := [.lit (.bool true)], args := [d1, d2] }
  | _ => none }
def permPowersRow : OpenClaim := { program := "ytjfhogholmabfaa", sum := "d835880e5b7add7da51fef8b99f1045fe2c0a50969582775fd17e5b38f74fdff", func := "commodatum/commodatumlaw01.PermPowers", spec := "permPowers", apart := false }
def PermPowersSaid : Prop := permPowersRow.holds Try.pinned (OpenSpec.ofChange permPowersSpec)

/-- ITS FALSE NEIGHBOUR: 'it returns false'. Refute it at one input. -/
def permPowersWrong : ChangeSpec := { name := "permPowers", fn := fun _ => fun
  | [d1, d2] => { results := [.lit (.bool false)], args := [d1, d2] }
  | _ => none }
def PermPowersWrongFalsely : Prop := permPowersRow.holds Try.pinned (OpenSpec.ofChange permPowersWrong)

/-- 'commodatumlaw01.PermConjugates': WHATEVER THE INPUT: true; the input reads as it did. -/
def permConjugatesSpec : ChangeSpec := { name := "permConjugates", fn := fun _ => fun
  | [d1, d2] => { results := [.lit (.bool true)], args := [d1, d2] }
  | _ => none }
def permConjugatesRow : OpenClaim := { program := "ytjfhogholmabfaa", sum := "d835880e5b7add7da51fef8b99f1045fe2c0a50969582775fd17e5b38f74fdff", func := "commodatum/commodatumlaw01.PermConjugates", spec := "permConjugates", recurses := true, apart := false }
def PermConjugatesSaid : Prop := permConjugatesRow.holds Try.pinned (OpenSpec.ofChange permConjugatesSpec)

/-- ITS FALSE NEIGHBOUR: 'it returns false'. Refute it at one input. -/
def permConjugatesWrong : ChangeSpec := { name := "permConjugates", fn := fun _ => fun
  | [d1, d2] => { results := [.lit (.bool false)], args := [d1, d2] }
  | _ => none }
def PermConjugatesWrongFalsely : Prop := permConjugatesRow.holds Try.pinned (OpenSpec.ofChange permConjugatesWrong)

/-- 'commodatumlaw01.PermGroup': WHATEVER THE INPUT: true; the input reads as it did. -/
def permGroupSpec : ChangeSpec := { name := "permGroup", fn := fun _ => fun
  | [d1, d2, d3] => { results := [.lit (.bool true)], args := [d1, d2, d3] }
  | _ => none }
def permGroupRow : OpenClaim := { program := "ytjfhogholmabfaa", sum := "d835880e5b7add7da51fef8b99f1045fe2c0a50969582775fd17e5b38f74fdff", func := "commodatum/commodatumlaw01.PermGroup", spec := "permGroup", apart := false }
def PermGroupSaid : Prop := permGroupRow.holds Try.pinned (OpenSpec.ofChange permGroupSpec)

/-- ITS FALSE NEIGHBOUR: 'it returns false'. Refute it at one input. -/
def permGroupWrong : ChangeSpec := { name := "permGroup", fn := fun _ => fun
  | [d1, d2, d3] => { results := [.lit (.bool false)], args := [d1, d2, d3] }
  | _ => none }
def PermGroupWrongFalsely : Prop := permGroupRow.holds Try.pinned (OpenSpec.ofChange permGroupWrong)

/-- 'commodatumlaw01.PermRanks': WHATEVER THE INPUT: true; the input reads as it did. -/
def permRanksSpec : ChangeSpec := { name := "permRanks", fn := fun _ => fun
  | [d1, d2, d3] => { results := [.lit (.bool true)], args := [d1, d2, d3] }
  | _ => none }
def permRanksRow : OpenClaim := { program := "ytjfhogholmabfaa", sum := "d835880e5b7add7da51fef8b99f1045fe2c0a50969582775fd17e5b38f74fdff", func := "commodatum/commodatumlaw01.PermRanks", spec := "permRanks", apart := false }
def PermRanksSaid : Prop := permRanksRow.holds Try.pinned (OpenSpec.ofChange permRanksSpec)

/-- ITS FALSE NEIGHBOUR: 'it returns false'. Refute it at one input. -/
def permRanksWrong : ChangeSpec := { name := "permRanks", fn := fun _ => fun
  | [d1, d2, d3] => { results := [.lit (.bool false)], args := [d1, d2, d3] }
  | _ => none }
def PermRanksWrongFalsely : Prop := permRanksRow.holds Try.pinned (OpenSpec.ofChange permRanksWrong)

/-- 'commodatumlaw01.PermValid': WHATEVER THE INPUT: true; the input reads as it did. -/
def permValidSpec : ChangeSpec := { name := "permValid", fn := fun _ => fun
  | [d] => { results := [.lit (.bool true)], args := [d] }
  | _ => none }
def permValidRow : OpenClaim := { program := "ytjfhogholmabfaa", sum := "d835880e5b7add7da51fef8b99f1045fe2c0a50969582775fd17e5b38f74fdff", func := "commodatum/commodatumlaw01.PermValid", spec := "permValid", unfollowed := true, recurses := true, apart := false }
def PermValidSaid : Prop := permValidRow.holds Try.pinned (OpenSpec.ofChange permValidSpec)

/-- ITS FALSE NEIGHBOUR: 'it returns false'. Refute it at one input. -/
def permValidWrong : ChangeSpec := { name := "permValid", fn := fun _ => fun
  | [d] => { results := [.lit (.bool false)], args := [d] }
  | _ => none }
def PermValidWrongFalsely : Prop := permValidRow.holds Try.pinned (OpenSpec.ofChange permValidWrong)

/-- 'commodatumlaw01.PermConjugate': WHATEVER THE INPUT: true; the input reads as it did. -/
def permConjugateSpec : ChangeSpec := { name := "permConjugate", fn := fun _ => fun
  | [d1, d2, d3] => { results := [.lit (.bool true)], args := [d1, d2, d3] }
  | _ => none }
def permConjugateRow : OpenClaim := { program := "ytjfhogholmabfaa", sum := "d835880e5b7add7da51fef8b99f1045fe2c0a50969582775fd17e5b38f74fdff", func := "commodatum/commodatumlaw01.PermConjugate", spec := "permConjugate", unfollowed := true, recurses := true, apart := false }
def PermConjugateSaid : Prop := permConjugateRow.holds Try.pinned (OpenSpec.ofChange permConjugateSpec)

/-- ITS FALSE NEIGHBOUR: 'it returns false'. Refute it at one input. -/
def permConjugateWrong : ChangeSpec := { name := "permConjugate", fn := fun _ => fun
  | [d1, d2, d3] => { results := [.lit (.bool false)], args := [d1, d2, d3] }
  | _ => none }
def PermConjugateWrongFalsely : Prop := permConjugateRow.holds Try.pinned (OpenSpec.ofChange permConjugateWrong)

/-- 'commodatumlaw01.PermOrder': WHATEVER THE INPUT: true; the input reads as it did. -/
def permOrderSpec : ChangeSpec := { name := "permOrder", fn := fun _ => fun
  | [d1, d2, d3] => { results := [.lit (.bool true)], args := [d1, d2, d3] }
  | _ => none }
def permOrderRow : OpenClaim := { program := "ytjfhogholmabfaa", sum := "d835880e5b7add7da51fef8b99f1045fe2c0a50969582775fd17e5b38f74fdff", func := "commodatum/commodatumlaw01.PermOrder", spec := "permOrder", unfollowed := true, recurses := true, apart := false }
def PermOrderSaid : Prop := permOrderRow.holds Try.pinned (OpenSpec.ofChange permOrderSpec)

/-- ITS FALSE NEIGHBOUR: 'it returns false'. Refute it at one input. -/
def permOrderWrong : ChangeSpec := { name := "permOrder", fn := fun _ => fun
  | [d1, d2, d3] => { results := [.lit (.bool false)], args := [d1, d2, d3] }
  | _ => none }
def PermOrderWrongFalsely : Prop := permOrderRow.holds Try.pinned (OpenSpec.ofChange permOrderWrong)

/-- 'commodatumlaw01.PermOwn': WHATEVER THE INPUT: true; the input reads as it did. -/
def permOwnSpec : ChangeSpec := { name := "permOwn", fn := fun _ => fun
  | [d1, d2, d3] => { results := [.lit (.bool true)], args := [d1, d2, d3] }
  | _ => none }
def permOwnRow : OpenClaim := { program := "ytjfhogholmabfaa", sum := "d835880e5b7add7da51fef8b99f1045fe2c0a50969582775fd17e5b38f74fdff", func := "commodatum/commodatumlaw01.PermOwn", spec := "permOwn", unfollowed := true, recurses := true, apart := false }
def PermOwnSaid : Prop := permOwnRow.holds Try.pinned (OpenSpec.ofChange permOwnSpec)

/-- ITS FALSE NEIGHBOUR: 'it returns false'. Refute it at one input. -/
def permOwnWrong : ChangeSpec := { name := "permOwn", fn := fun _ => fun
  | [d1, d2, d3] => { results := [.lit (.bool false)], args := [d1, d2, d3] }
  | _ => none }
def PermOwnWrongFalsely : Prop := permOwnRow.holds Try.pinned (OpenSpec.ofChange permOwnWrong)

/- THE SECOND FORM. 'bulk': how many values and letters a reading holds, each counted each time it is reached (what is shared counts as often as it is met; a slice's spare places count too). A statement '..UptoSaid' is the law's where the arguments, and the package variables that the reading takes, are together of bulk at most 1048576: NARROWER than '..Said'. Prove '..Said' where nothing that the law and all that it calls make is longer than what came in: it says more and counts as full. Else prove '..UptoSaid'. A law counts once. -/
mutual
def uptoBulk {H : Type} : DataW H → Nat
  | .lit (.string bytes) => bytes.length + 1
  | .lit _ => 1
  | .nil => 1
  | .ptr d => uptoBulk d + 1
  | .slice elems spare => uptoBulkAll elems + uptoBulkAll spare + 1
  | .agg parts => uptoBulkAll parts + 1
  | .iface _ d => uptoBulk d + 1
  | .map entries => uptoBulkEntries entries + 1
  | .held _ => 1
def uptoBulkAll {H : Type} : List (DataW H) → Nat
  | [] => 0
  | d :: r => uptoBulk d + uptoBulkAll r
def uptoBulkEntries {H : Type} : List (Lit × DataW H) → Nat
  | [] => 0
  | x :: r => uptoBulkEntry x + uptoBulkEntries r
def uptoBulkEntry {H : Type} : Lit × DataW H → Nat
  | (.string bytes, d) => bytes.length + uptoBulk d + 1
  | (_, d) => uptoBulk d + 1
 end
def uptoSmall : (H : Type) → List (DataW H) → Bool := fun _ ds => decide (uptoBulkAll ds ≤ 1048576)
def OpenSpec.upto (s : _root_.Go.ChangeSpec) : _root_.Go.OpenSpec := { _root_.Go.OpenSpec.ofChange s with cond := some uptoSmall }

/-- 'commodatumlaw01.PermMuls', WHERE WHAT IT READS IS OF BULK AT MOST 1048576: true; the input reads as it did. -/
def permMulsUptoRow : OpenClaim := { program := "ytjfhogholmabfaa", sum := "d835880e5b7add7da51fef8b99f1045fe2c0a50969582775fd17e5b38f74fdff", func := "commodatum/commodatumlaw01.PermMuls", spec := "permMuls", apart := false, narrowed := true }
def PermMulsUptoSaid : Prop := permMulsUptoRow.holds Try.pinned (OpenSpec.upto permMulsSpec)

/-- 'commodatumlaw01.PermMakes', WHERE WHAT IT READS IS OF BULK AT MOST 1048576: true; the input reads as it did. -/
def permMakesUptoRow : OpenClaim := { program := "ytjfhogholmabfaa", sum := "d835880e5b7add7da51fef8b99f1045fe2c0a50969582775fd17e5b38f74fdff", func := "commodatum/commodatumlaw01.PermMakes", spec := "permMakes", recurses := true, apart := false, narrowed := true }
def PermMakesUptoSaid : Prop := permMakesUptoRow.holds Try.pinned (OpenSpec.upto permMakesSpec)

/-- 'commodatumlaw01.PermPowers', WHERE WHAT IT READS IS OF BULK AT MOST 1048576: true; the input reads as it did. -/
def permPowersUptoRow : OpenClaim := { program := "ytjfhogholmabfaa", sum := "d835880e5b7add7da51fef8b99f1045fe2c0a50969582775fd17e5b38f74fdff", func := "commodatum/commodatumlaw01.PermPowers", spec := "permPowers", apart := false, narrowed := true }
def PermPowersUptoSaid : Prop := permPowersUptoRow.holds Try.pinned (OpenSpec.upto permPowersSpec)

/-- 'commodatumlaw01.PermConjugates', WHERE WHAT IT READS IS OF BULK AT MOST 1048576: true; the input reads as it did. -/
def permConjugatesUptoRow : OpenClaim := { program := "ytjfhogholmabfaa", sum := "d835880e5b7add7da51fef8b99f1045fe2c0a50969582775fd17e5b38f74fdff", func := "commodatum/commodatumlaw01.PermConjugates", spec := "permConjugates", recurses := true, apart := false, narrowed := true }
def PermConjugatesUptoSaid : Prop := permConjugatesUptoRow.holds Try.pinned (OpenSpec.upto permConjugatesSpec)

/-- 'commodatumlaw01.PermGroup', WHERE WHAT IT READS IS OF BULK AT MOST 1048576: true; the input reads as it did. -/
def permGroupUptoRow : OpenClaim := { program := "ytjfhogholmabfaa", sum := "d835880e5b7add7da51fef8b99f1045fe2c0a50969582775fd17e5b38f74fdff", func := "commodatum/commodatumlaw01.PermGroup", spec := "permGroup", apart := false, narrowed := true }
def PermGroupUptoSaid : Prop := permGroupUptoRow.holds Try.pinned (OpenSpec.upto permGroupSpec)

/-- 'commodatumlaw01.PermRanks', WHERE WHAT IT READS IS OF BULK AT MOST 1048576: true; the input reads as it did. -/
def permRanksUptoRow : OpenClaim := { program := "ytjfhogholmabfaa", sum := "d835880e5b7add7da51fef8b99f1045fe2c0a50969582775fd17e5b38f74fdff", func := "commodatum/commodatumlaw01.PermRanks", spec := "permRanks", apart := false, narrowed := true }
def PermRanksUptoSaid : Prop := permRanksUptoRow.holds Try.pinned (OpenSpec.upto permRanksSpec)

/-- 'commodatumlaw01.PermValid', WHERE WHAT IT READS IS OF BULK AT MOST 1048576: true; the input reads as it did. -/
def permValidUptoRow : OpenClaim := { program := "ytjfhogholmabfaa", sum := "d835880e5b7add7da51fef8b99f1045fe2c0a50969582775fd17e5b38f74fdff", func := "commodatum/commodatumlaw01.PermValid", spec := "permValid", unfollowed := true, recurses := true, apart := false, narrowed := true }
def PermValidUptoSaid : Prop := permValidUptoRow.holds Try.pinned (OpenSpec.upto permValidSpec)

/-- 'commodatumlaw01.PermConjugate', WHERE WHAT IT READS IS OF BULK AT MOST 1048576: true; the input reads as it did. -/
def permConjugateUptoRow : OpenClaim := { program := "ytjfhogholmabfaa", sum := "d835880e5b7add7da51fef8b99f1045fe2c0a50969582775fd17e5b38f74fdff", func := "commodatum/commodatumlaw01.PermConjugate", spec := "permConjugate", unfollowed := true, recurses := true, apart := false, narrowed := true }
def PermConjugateUptoSaid : Prop := permConjugateUptoRow.holds Try.pinned (OpenSpec.upto permConjugateSpec)

/-- 'commodatumlaw01.PermOrder', WHERE WHAT IT READS IS OF BULK AT MOST 1048576: true; the input reads as it did. -/
def permOrderUptoRow : OpenClaim := { program := "ytjfhogholmabfaa", sum := "d835880e5b7add7da51fef8b99f1045fe2c0a50969582775fd17e5b38f74fdff", func := "commodatum/commodatumlaw01.PermOrder", spec := "permOrder", unfollowed := true, recurses := true, apart := false, narrowed := true }
def PermOrderUptoSaid : Prop := permOrderUptoRow.holds Try.pinned (OpenSpec.upto permOrderSpec)

/-- 'commodatumlaw01.PermOwn', WHERE WHAT IT READS IS OF BULK AT MOST 1048576: true; the input reads as it did. -/
def permOwnUptoRow : OpenClaim := { program := "ytjfhogholmabfaa", sum := "d835880e5b7add7da51fef8b99f1045fe2c0a50969582775fd17e5b38f74fdff", func := "commodatum/commodatumlaw01.PermOwn", spec := "permOwn", unfollowed := true, recurses := true, apart := false, narrowed := true }
def PermOwnUptoSaid : Prop := permOwnUptoRow.holds Try.pinned (OpenSpec.upto permOwnSpec)

end Rows
end Go.Proofs.Ytjfhogholmabfaa
