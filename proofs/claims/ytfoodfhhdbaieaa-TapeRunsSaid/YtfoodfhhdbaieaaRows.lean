/-
  No cell of these rows narrows 'for every input' (looked for: loops, veiled, ifaces, maps, wideKeys, modest, calm, conditions, laid).
  DERIVED. THE GIVEN ROWS OF THIS SEAT. 6 by the template 'for every input the law returns true; each argument reads behind the call as it read before'; 0 by the template 'total and deterministic' (their statements: YtfoodfhhdbaieaaTotals.lean).
  GIVEN WITH THE SEED: the statements are not yours to turn. If you find one false, say at which input.
  Laid BY PROGRAM, IN A SANDBOX (cutbox-rows.mjs): the forced cells as the released guide's own fill.sh prints them over the translation 6e04ba9afbec95d6… (all of the seat's roots in one cut). By AI agents, Wed Nov 11 2026. No macro, syntax, notation, axiom, sorry.
-/
import Derived.Test.YtfoodfhhdbaieaaChecked
import GoSem.Claim
import GoSem.ClaimJoined
import GoSem.ClaimMapViews
import Derived.JoinedTies
import Derived.KernelRfl
namespace Go.Proofs.Ytfoodfhhdbaieaa
/- THE CELL 'sum', in the pinned program and in every row, IS THE sha256 OF THE DUMP (.gsa) THAT YtfoodfhhdbaieaaProg.lean LOADS. Nothing in Lean hashes anything: it is a label: what it is worth is what the hold of that sum in a sandbox is worth. -/
noncomputable def Try.pinned : Pinned := { name := "ytfoodfhhdbaieaa", sum := "6e04ba9afbec95d690b33e7e5f9a0ea281a0317e829e4d06fe2c746efed535fa", checked := Try.checked }
namespace Rows
def none {H : Type} : Left H := { results := [], args := [] }

/-- 'commodatumlaw20.TapeRuns': WHATEVER THE INPUT: true; the input reads as it did. -/
def tapeRunsSpec : ChangeSpec := { name := "tapeRuns", fn := fun _ => fun
  | [d1, d2] => { results := [.lit (.bool true)], args := [d1, d2] }
  | _ => none }
def tapeRunsRow : OpenClaim := { program := "ytfoodfhhdbaieaa", sum := "6e04ba9afbec95d690b33e7e5f9a0ea281a0317e829e4d06fe2c746efed535fa", func := "commodatum/commodatumlaw20.TapeRuns", spec := "tapeRuns", unfollowed := true, recurses := true, plainKeys := false, apart := false }
def TapeRunsSaid : Prop := tapeRunsRow.holds Try.pinned (OpenSpec.ofChange tapeRunsSpec)

/-- ITS FALSE NEIGHBOUR: 'it returns false'. Refute it at one input. -/
def tapeRunsWrong : ChangeSpec := { name := "tapeRuns", fn := fun _ => fun
  | [d1, d2] => { results := [.lit (.bool false)], args := [d1, d2] }
  | _ => none }
def TapeRunsWrongFalsely : Prop := tapeRunsRow.holds Try.pinned (OpenSpec.ofChange tapeRunsWrong)

/-- 'commodatumlaw20.TapeSpace': WHATEVER THE INPUT: true; the input reads as it did. -/
def tapeSpaceSpec : ChangeSpec := { name := "tapeSpace", fn := fun _ => fun
  | [d1, d2] => { results := [.lit (.bool true)], args := [d1, d2] }
  | _ => none }
def tapeSpaceRow : OpenClaim := { program := "ytfoodfhhdbaieaa", sum := "6e04ba9afbec95d690b33e7e5f9a0ea281a0317e829e4d06fe2c746efed535fa", func := "commodatum/commodatumlaw20.TapeSpace", spec := "tapeSpace", unfollowed := true, recurses := true, plainKeys := false, apart := false }
def TapeSpaceSaid : Prop := tapeSpaceRow.holds Try.pinned (OpenSpec.ofChange tapeSpaceSpec)

/-- ITS FALSE NEIGHBOUR: 'it returns false'. Refute it at one input. -/
def tapeSpaceWrong : ChangeSpec := { name := "tapeSpace", fn := fun _ => fun
  | [d1, d2] => { results := [.lit (.bool false)], args := [d1, d2] }
  | _ => none }
def TapeSpaceWrongFalsely : Prop := tapeSpaceRow.holds Try.pinned (OpenSpec.ofChange tapeSpaceWrong)

/-- 'commodatumlaw20.TapeOrder': WHATEVER THE INPUT: true; the input reads as it did. -/
def tapeOrderSpec : ChangeSpec := { name := "tapeOrder", fn := fun _ => fun
  | [d1, d2, d3] => { results := [.lit (.bool true)], args := [d1, d2, d3] }
  | _ => none }
def tapeOrderRow : OpenClaim := { program := "ytfoodfhhdbaieaa", sum := "6e04ba9afbec95d690b33e7e5f9a0ea281a0317e829e4d06fe2c746efed535fa", func := "commodatum/commodatumlaw20.TapeOrder", spec := "tapeOrder", unfollowed := true, recurses := true, plainKeys := false, apart := false }
def TapeOrderSaid : Prop := tapeOrderRow.holds Try.pinned (OpenSpec.ofChange tapeOrderSpec)

/-- ITS FALSE NEIGHBOUR: 'it returns false'. Refute it at one input. -/
def tapeOrderWrong : ChangeSpec := { name := "tapeOrder", fn := fun _ => fun
  | [d1, d2, d3] => { results := [.lit (.bool false)], args := [d1, d2, d3] }
  | _ => none }
def TapeOrderWrongFalsely : Prop := tapeOrderRow.holds Try.pinned (OpenSpec.ofChange tapeOrderWrong)

/-- 'commodatumlaw20.TapeScenes': WHATEVER THE INPUT: true; the input reads as it did. -/
def tapeScenesSpec : ChangeSpec := { name := "tapeScenes", fn := fun _ => fun
  | [d1, d2] => { results := [.lit (.bool true)], args := [d1, d2] }
  | _ => none }
def tapeScenesRow : OpenClaim := { program := "ytfoodfhhdbaieaa", sum := "6e04ba9afbec95d690b33e7e5f9a0ea281a0317e829e4d06fe2c746efed535fa", func := "commodatum/commodatumlaw20.TapeScenes", spec := "tapeScenes", unfollowed := true, recurses := true, plainKeys := false, apart := false }
def TapeScenesSaid : Prop := tapeScenesRow.holds Try.pinned (OpenSpec.ofChange tapeScenesSpec)

/-- ITS FALSE NEIGHBOUR: 'it returns false'. Refute it at one input. -/
def tapeScenesWrong : ChangeSpec := { name := "tapeScenes", fn := fun _ => fun
  | [d1, d2] => { results := [.lit (.bool false)], args := [d1, d2] }
  | _ => none }
def TapeScenesWrongFalsely : Prop := tapeScenesRow.holds Try.pinned (OpenSpec.ofChange tapeScenesWrong)

/-- 'commodatumlaw20.TapeSteps': WHATEVER THE INPUT: true; the input reads as it did. -/
def tapeStepsSpec : ChangeSpec := { name := "tapeSteps", fn := fun _ => fun
  | [d1, d2] => { results := [.lit (.bool true)], args := [d1, d2] }
  | _ => none }
def tapeStepsRow : OpenClaim := { program := "ytfoodfhhdbaieaa", sum := "6e04ba9afbec95d690b33e7e5f9a0ea281a0317e829e4d06fe2c746efed535fa", func := "commodatum/commodatumlaw20.TapeSteps", spec := "tapeSteps", unfollowed := true, recurses := true, plainKeys := false, apart := false }
def TapeStepsSaid : Prop := tapeStepsRow.holds Try.pinned (OpenSpec.ofChange tapeStepsSpec)

/-- ITS FALSE NEIGHBOUR: 'it returns false'. Refute it at one input. -/
def tapeStepsWrong : ChangeSpec := { name := "tapeSteps", fn := fun _ => fun
  | [d1, d2] => { results := [.lit (.bool false)], args := [d1, d2] }
  | _ => none }
def TapeStepsWrongFalsely : Prop := tapeStepsRow.holds Try.pinned (OpenSpec.ofChange tapeStepsWrong)

/-- 'commodatumlaw20.TapeLocal': WHATEVER THE INPUT: true; the input reads as it did. -/
def tapeLocalSpec : ChangeSpec := { name := "tapeLocal", fn := fun _ => fun
  | [d1, d2] => { results := [.lit (.bool true)], args := [d1, d2] }
  | _ => none }
def tapeLocalRow : OpenClaim := { program := "ytfoodfhhdbaieaa", sum := "6e04ba9afbec95d690b33e7e5f9a0ea281a0317e829e4d06fe2c746efed535fa", func := "commodatum/commodatumlaw20.TapeLocal", spec := "tapeLocal", unfollowed := true, recurses := true, plainKeys := false, apart := false }
def TapeLocalSaid : Prop := tapeLocalRow.holds Try.pinned (OpenSpec.ofChange tapeLocalSpec)

/-- ITS FALSE NEIGHBOUR: 'it returns false'. Refute it at one input. -/
def tapeLocalWrong : ChangeSpec := { name := "tapeLocal", fn := fun _ => fun
  | [d1, d2] => { results := [.lit (.bool false)], args := [d1, d2] }
  | _ => none }
def TapeLocalWrongFalsely : Prop := tapeLocalRow.holds Try.pinned (OpenSpec.ofChange tapeLocalWrong)

/- THE SECOND FORM. 'bulk': how many values and letters a reading holds, each counted each time it is reached (what is shared counts as often as it is met; a slice's spare places count too). A statement '..UptoSaid' is the law's where the arguments, and the package variables that the reading takes, are together of bulk at most 1048576: NARROWER than '..Said'. Prove '..Said' where nothing that the law and all that it calls make is longer than what came in: it says more and counts as full. Else prove '..UptoSaid'. A law counts once. -/
mutual
def uptoBulk {H : Type} : DataW H → Nat
  | .lit (.string bytes) => bytes.length + 1
  | .lit _ => 1
  | .nil => 1
  | .ptr d => uptoBulk d + 1
  | .slice elems spare => uptoBulkAll elems + uptoBulkAll spare + 1
  | .agg parts => uptoBulkAll parts + 1
  | .iface _ d => uptoBulk d + 1
  | .map entries => uptoBulkEntries entries + 1
  | .held _ => 1
def uptoBulkAll {H : Type} : List (DataW H) → Nat
  | [] => 0
  | d :: r => uptoBulk d + uptoBulkAll r
def uptoBulkEntries {H : Type} : List (Lit × DataW H) → Nat
  | [] => 0
  | x :: r => uptoBulkEntry x + uptoBulkEntries r
def uptoBulkEntry {H : Type} : Lit × DataW H → Nat
  | (.string bytes, d) => bytes.length + uptoBulk d + 1
  | (_, d) => uptoBulk d + 1
 end
def uptoSmall : (H : Type) → List (DataW H) → Bool := fun _ ds => decide (uptoBulkAll ds ≤ 1048576)
def OpenSpec.upto (s : _root_.Go.ChangeSpec) : _root_.Go.OpenSpec := { _root_.Go.OpenSpec.ofChange s with cond := some uptoSmall }

/-- 'commodatumlaw20.TapeRuns', WHERE WHAT IT READS IS OF BULK AT MOST 1048576: true; the input reads as it did. -/
def tapeRunsUptoRow : OpenClaim := { program := "ytfoodfhhdbaieaa", sum := "6e04ba9afbec95d690b33e7e5f9a0ea281a0317e829e4d06fe2c746efed535fa", func := "commodatum/commodatumlaw20.TapeRuns", spec := "tapeRuns", unfollowed := true, recurses := true, plainKeys := false, apart := false, narrowed := true }
def TapeRunsUptoSaid : Prop := tapeRunsUptoRow.holds Try.pinned (OpenSpec.upto tapeRunsSpec)

/-- 'commodatumlaw20.TapeSpace', WHERE WHAT IT READS IS OF BULK AT MOST 1048576: true; the input reads as it did. -/
def tapeSpaceUptoRow : OpenClaim := { program := "ytfoodfhhdbaieaa", sum := "6e04ba9afbec95d690b33e7e5f9a0ea281a0317e829e4d06fe2c746efed535fa", func := "commodatum/commodatumlaw20.TapeSpace", spec := "tapeSpace", unfollowed := true, recurses := true, plainKeys := false, apart := false, narrowed := true }
def TapeSpaceUptoSaid : Prop := tapeSpaceUptoRow.holds Try.pinned (OpenSpec.upto tapeSpaceSpec)

/-- 'commodatumlaw20.TapeOrder', WHERE WHAT IT READS IS OF BULK AT MOST 1048576: true; the input reads as it did. -/
def tapeOrderUptoRow : OpenClaim := { program := "ytfoodfhhdbaieaa", sum := "6e04ba9afbec95d690b33e7e5f9a0ea281a0317e829e4d06fe2c746efed535fa", func := "commodatum/commodatumlaw20.TapeOrder", spec := "tapeOrder", unfollowed := true, recurses := true, plainKeys := false, apart := false, narrowed := true }
def TapeOrderUptoSaid : Prop := tapeOrderUptoRow.holds Try.pinned (OpenSpec.upto tapeOrderSpec)

/-- 'commodatumlaw20.TapeScenes', WHERE WHAT IT READS IS OF BULK AT MOST 1048576: true; the input reads as it did. -/
def tapeScenesUptoRow : OpenClaim := { program := "ytfoodfhhdbaieaa", sum := "6e04ba9afbec95d690b33e7e5f9a0ea281a0317e829e4d06fe2c746efed535fa", func := "commodatum/commodatumlaw20.TapeScenes", spec := "tapeScenes", unfollowed := true, recurses := true, plainKeys := false, apart := false, narrowed := true }
def TapeScenesUptoSaid : Prop := tapeScenesUptoRow.holds Try.pinned (OpenSpec.upto tapeScenesSpec)

/-- 'commodatumlaw20.TapeSteps', WHERE WHAT IT READS IS OF BULK AT MOST 1048576: true; the input reads as it did. -/
def tapeStepsUptoRow : OpenClaim := { program := "ytfoodfhhdbaieaa", sum := "6e04ba9afbec95d690b33e7e5f9a0ea281a0317e829e4d06fe2c746efed535fa", func := "commodatum/commodatumlaw20.TapeSteps", spec := "tapeSteps", unfollowed := true, recurses := true, plainKeys := false, apart := false, narrowed := true }
def TapeStepsUptoSaid : Prop := tapeStepsUptoRow.holds Try.pinned (OpenSpec.upto tapeStepsSpec)

/-- 'commodatumlaw20.TapeLocal', WHERE WHAT IT READS IS OF BULK AT MOST 1048576: true; the input reads as it did. -/
def tapeLocalUptoRow : OpenClaim := { program := "ytfoodfhhdbaieaa", sum := "6e04ba9afbec95d690b33e7e5f9a0ea281a0317e829e4d06fe2c746efed535fa", func := "commodatum/commodatumlaw20.TapeLocal", spec := "tapeLocal", unfollowed := true, recurses := true, plainKeys := false, apart := false, narrowed := true }
def TapeLocalUptoSaid : Prop := tapeLocalUptoRow.holds Try.pinned (OpenSpec.upto tapeLocalSpec)

end Rows
end Go.Proofs.Ytfoodfhhdbaieaa
