/-
  DERIVED. GIVEN WITH THE SEED: THE CARDS: each row of YtfoodfhhdbaieaaDoorRows.lean that lists a variable, with what it lists TIED to the program's text (the seventh form; the later family's looks); each row that meets fmt, with fmt's text TOLD by the authors' own Lean function (tested against real Go, not proved from fmt's source: count such statements apart). THE CARD IS WHAT COUNTS. Prove the row's statement (the work); the ties are given (YtfoodfhhdbaieaaDoorTie.lean); close each card by the builder's one call (the guide's Derived/Test/ToyasCard.lean, 'card_holds'). Laid BY PROGRAM, IN A SANDBOX (cutbox-door.mjs). By AI agents, Wed Nov 11 2026. No macro, syntax, notation, axiom, sorry.
-/
import Derived.Test.YtfoodfhhdbaieaaDoorRows
import GoSem.ClaimSeven
namespace Go.Proofs.YtfoodfhhdbaieaaDoor
namespace Rows

/-- THE TIED CARD OF 'commodatumlaw20.TapeForms'. -/
def tapeFormsCard : Claim7 := { stood := { row := tapeFormsRow, standIns := [], harness := (true, "a9a551b271b08c1c31194dc76c7e7bafe2ea0ab026c079561e882d78ad01f025"), looks := true }, kinds := [], alts := [], laidByText := true, laidKinds := [.data, .data, .data], laidTests := true, laidLooks := .later }
def TapeFormsCardSaid : Prop := Claim7.holds Tryd.pinned (.plain (OpenSpec.ofChange tapeFormsSpec)) tapeFormsCard

/-- THE TIED CARD OF 'commodatumlaw20.TapeParses'. -/
def tapeParsesCard : Claim7 := { stood := { row := tapeParsesRow, standIns := [], harness := (true, "a9a551b271b08c1c31194dc76c7e7bafe2ea0ab026c079561e882d78ad01f025"), looks := true }, kinds := [], alts := [], laidByText := true, laidKinds := [.data, .data, .data, .data, .sentinel, .sentinel, .pinned], laidTests := true, laidLooks := .later }
def TapeParsesCardSaid : Prop := Claim7.holds Tryd.pinned (.plain (OpenSpec.ofChange tapeParsesSpec)) tapeParsesCard

/-- THE TIED CARD OF 'commodatumlaw20.TapeBack'. -/
def tapeBackCard : Claim7 := { stood := { row := tapeBackRow, standIns := [], harness := (true, "a9a551b271b08c1c31194dc76c7e7bafe2ea0ab026c079561e882d78ad01f025"), looks := true }, kinds := [], alts := [], laidByText := true, laidKinds := [.data, .data, .data, .data, .sentinel, .sentinel, .pinned], laidTests := true, laidLooks := .later }
def TapeBackCardSaid : Prop := Claim7.holds Tryd.pinned (.plain (OpenSpec.ofChange tapeBackSpec)) tapeBackCard

/-- THE SECOND FORM's CARD OF 'commodatumlaw20.TapeForms'. -/
def tapeFormsUptoCard : Claim7 := { stood := { row := tapeFormsUptoRow, standIns := [], harness := (true, "a9a551b271b08c1c31194dc76c7e7bafe2ea0ab026c079561e882d78ad01f025"), looks := true }, kinds := [], alts := [], laidByText := true, laidKinds := [.data, .data, .data], laidTests := true, laidLooks := .later }
def TapeFormsUptoCardSaid : Prop := Claim7.holds Tryd.pinned (.plain (OpenSpec.upto tapeFormsSpec)) tapeFormsUptoCard

/-- THE SECOND FORM's CARD OF 'commodatumlaw20.TapeParses'. -/
def tapeParsesUptoCard : Claim7 := { stood := { row := tapeParsesUptoRow, standIns := [], harness := (true, "a9a551b271b08c1c31194dc76c7e7bafe2ea0ab026c079561e882d78ad01f025"), looks := true }, kinds := [], alts := [], laidByText := true, laidKinds := [.data, .data, .data, .data, .sentinel, .sentinel, .pinned], laidTests := true, laidLooks := .later }
def TapeParsesUptoCardSaid : Prop := Claim7.holds Tryd.pinned (.plain (OpenSpec.upto tapeParsesSpec)) tapeParsesUptoCard

/-- THE SECOND FORM's CARD OF 'commodatumlaw20.TapeBack'. -/
def tapeBackUptoCard : Claim7 := { stood := { row := tapeBackUptoRow, standIns := [], harness := (true, "a9a551b271b08c1c31194dc76c7e7bafe2ea0ab026c079561e882d78ad01f025"), looks := true }, kinds := [], alts := [], laidByText := true, laidKinds := [.data, .data, .data, .data, .sentinel, .sentinel, .pinned], laidTests := true, laidLooks := .later }
def TapeBackUptoCardSaid : Prop := Claim7.holds Tryd.pinned (.plain (OpenSpec.upto tapeBackSpec)) tapeBackUptoCard
end Rows
end Go.Proofs.YtfoodfhhdbaieaaDoor
