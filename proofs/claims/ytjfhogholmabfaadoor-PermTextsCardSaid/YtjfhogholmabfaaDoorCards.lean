/-
  DERIVED. GIVEN WITH THE SEED: THE CARDS: each row of YtjfhogholmabfaaDoorRows.lean that lists a variable, with what it lists TIED to the program's text (the seventh form; the later family's looks); each row that meets fmt, with fmt's text TOLD by the authors' own Lean function (tested against real Go, not proved from fmt's source: count such statements apart). THE CARD IS WHAT COUNTS. Prove the row's statement (the work); the ties are given (YtjfhogholmabfaaDoorTie.lean); close each card by the builder's one call (the guide's Derived/Test/ToyasCard.lean, 'card_holds'). Laid BY PROGRAM, IN A SANDBOX (cutbox-door.mjs). By AI agents, Wed Nov 11 2026. No macro, syntax, notation, axiom, sorry.
-/
import Derived.Test.YtjfhogholmabfaaDoorRows
import GoSem.ClaimSeven
namespace Go.Proofs.YtjfhogholmabfaaDoor
namespace Rows

/-- THE TIED CARD OF 'commodatumlaw01.PermBack'. -/
def permBackCard : Claim7 := { stood := { row := permBackRow, standIns := [], harness := (true, "5558f9b873b3b2aa2858057529c59c2ba5e48a45c89b6c8ecff3497761918e44"), looks := false }, kinds := [], alts := [], laidByText := true, laidKinds := [.data, .data, .data], laidTests := true, laidLooks := .later }
def PermBackCardSaid : Prop := Claim7.holds Tryd.pinned (.plain (OpenSpec.ofChange permBackSpec)) permBackCard

/-- THE TIED CARD OF 'commodatumlaw01.PermTexts'. -/
def permTextsCard : Claim7 := { stood := { row := permTextsRow, standIns := [], harness := (true, "5558f9b873b3b2aa2858057529c59c2ba5e48a45c89b6c8ecff3497761918e44"), looks := false }, kinds := [], alts := [], laidByText := true, laidKinds := [.data, .data, .data], laidTests := true, laidLooks := .later }
def PermTextsCardSaid : Prop := Claim7.holds Tryd.pinned (.plain (OpenSpec.ofChange permTextsSpec)) permTextsCard

/-- THE SECOND FORM's CARD OF 'commodatumlaw01.PermBack'. -/
def permBackUptoCard : Claim7 := { stood := { row := permBackUptoRow, standIns := [], harness := (true, "5558f9b873b3b2aa2858057529c59c2ba5e48a45c89b6c8ecff3497761918e44"), looks := false }, kinds := [], alts := [], laidByText := true, laidKinds := [.data, .data, .data], laidTests := true, laidLooks := .later }
def PermBackUptoCardSaid : Prop := Claim7.holds Tryd.pinned (.plain (OpenSpec.upto permBackSpec)) permBackUptoCard

/-- THE SECOND FORM's CARD OF 'commodatumlaw01.PermTexts'. -/
def permTextsUptoCard : Claim7 := { stood := { row := permTextsUptoRow, standIns := [], harness := (true, "5558f9b873b3b2aa2858057529c59c2ba5e48a45c89b6c8ecff3497761918e44"), looks := false }, kinds := [], alts := [], laidByText := true, laidKinds := [.data, .data, .data], laidTests := true, laidLooks := .later }
def PermTextsUptoCardSaid : Prop := Claim7.holds Tryd.pinned (.plain (OpenSpec.upto permTextsSpec)) permTextsUptoCard
end Rows
end Go.Proofs.YtjfhogholmabfaaDoor
