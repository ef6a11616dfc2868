/-
  DERIVED. GIVEN WITH THE SEED: THE CARDS: each row of YthfhnkpipdbekaaDoorRows.lean that lists a variable, with what it lists TIED to the program's text (the seventh form; the later family's looks); each row that meets fmt, with fmt's text TOLD by the authors' own Lean function (tested against real Go, not proved from fmt's source: count such statements apart). THE CARD IS WHAT COUNTS. Prove the row's statement (the work); the ties are given (YthfhnkpipdbekaaDoorTie.lean); close each card by the builder's one call (the guide's Derived/Test/ToyasCard.lean, 'card_holds'). Laid BY PROGRAM, IN A SANDBOX (cutbox-door.mjs). By AI agents, Wed Nov 11 2026. No macro, syntax, notation, axiom, sorry.
-/
import Derived.Test.YthfhnkpipdbekaaDoorRows
import GoSem.ClaimSeven
namespace Go.Proofs.YthfhnkpipdbekaaDoor
namespace Rows

/-- THE TIED CARD OF 'commodatumlaw12.UndoParses'. -/
def undoParsesCard : Claim7 := { stood := { row := undoParsesRow, standIns := [], harness := (true, "ccfc1fd9e50bf4ada73e29c50ab60ca18893da33b0f1394b1e7622372b095016"), looks := true }, kinds := [], alts := [], laidByText := true, laidKinds := [.data, .data, .data, .data, .sentinel, .sentinel, .listed, .data, .pinned], laidTests := true, laidLooks := .later }
def UndoParsesCardSaid : Prop := Claim7.holds Tryd.pinned (.plain (OpenSpec.ofChange undoParsesSpec)) undoParsesCard

/-- THE TIED CARD OF 'commodatumlaw12.UndoTables'. -/
def undoTablesCard : Claim7 := { stood := { row := undoTablesRow, standIns := [], harness := (true, "ccfc1fd9e50bf4ada73e29c50ab60ca18893da33b0f1394b1e7622372b095016"), looks := true }, kinds := [], alts := [], laidByText := true, laidKinds := [.data, .data, .data, .data, .sentinel, .sentinel, .listed, .data, .pinned], laidTests := true, laidLooks := .later }
def UndoTablesCardSaid : Prop := Claim7.holds Tryd.pinned (.plain (OpenSpec.ofChange undoTablesSpec)) undoTablesCard

/-- THE TIED CARD OF 'commodatumlaw12.UndoForms'. -/
def undoFormsCard : Claim7 := { stood := { row := undoFormsRow, standIns := [], harness := (true, "ccfc1fd9e50bf4ada73e29c50ab60ca18893da33b0f1394b1e7622372b095016"), looks := true }, kinds := [], alts := [], laidByText := true, laidKinds := [.data, .data, .data, .data, .sentinel, .sentinel, .listed, .data, .pinned], laidTests := true, laidLooks := .later }
def UndoFormsCardSaid : Prop := Claim7.holds Tryd.pinned (.plain (OpenSpec.ofChange undoFormsSpec)) undoFormsCard

/-- THE TIED CARD OF 'commodatumlaw12.UndoBack'. -/
def undoBackCard : Claim7 := { stood := { row := undoBackRow, standIns := [], harness := (true, "ccfc1fd9e50bf4ada73e29c50ab60ca18893da33b0f1394b1e7622372b095016"), looks := true }, kinds := [], alts := [], laidByText := true, laidKinds := [.data, .data, .data, .data, .sentinel, .sentinel, .listed, .data, .pinned], laidTests := true, laidLooks := .later }
def UndoBackCardSaid : Prop := Claim7.holds Tryd.pinned (.plain (OpenSpec.ofChange undoBackSpec)) undoBackCard

/-- THE TIED CARD OF 'commodatumlaw12.UndoReverses'. -/
def undoReversesCard : Claim7 := { stood := { row := undoReversesRow, standIns := [], harness := (true, "ccfc1fd9e50bf4ada73e29c50ab60ca18893da33b0f1394b1e7622372b095016"), looks := true }, kinds := [], alts := [], laidByText := true, laidKinds := [.data, .data, .data, .data, .sentinel, .sentinel, .listed, .data, .pinned], laidTests := true, laidLooks := .later }
def UndoReversesCardSaid : Prop := Claim7.holds Tryd.pinned (.plain (OpenSpec.ofChange undoReversesSpec)) undoReversesCard

/-- THE TIED CARD OF 'commodatumlaw12.UndoNumbers'. -/
def undoNumbersCard : Claim7 := { stood := { row := undoNumbersRow, standIns := [], harness := (true, "ccfc1fd9e50bf4ada73e29c50ab60ca18893da33b0f1394b1e7622372b095016"), looks := true }, kinds := [], alts := [], laidByText := true, laidKinds := [.data, .data, .data, .data, .sentinel, .sentinel, .listed, .data, .pinned], laidTests := true, laidLooks := .later }
def UndoNumbersCardSaid : Prop := Claim7.holds Tryd.pinned (.plain (OpenSpec.ofChange undoNumbersSpec)) undoNumbersCard

/-- THE TIED CARD OF 'commodatumlaw12.UndoJoined'. -/
def undoJoinedCard : Claim7 := { stood := { row := undoJoinedRow, standIns := [], harness := (true, "ccfc1fd9e50bf4ada73e29c50ab60ca18893da33b0f1394b1e7622372b095016"), looks := true }, kinds := [], alts := [], laidByText := true, laidKinds := [.data, .data, .data, .data, .sentinel, .sentinel, .listed, .data, .pinned], laidTests := true, laidLooks := .later }
def UndoJoinedCardSaid : Prop := Claim7.holds Tryd.pinned (.plain (OpenSpec.ofChange undoJoinedSpec)) undoJoinedCard

/-- THE TIED CARD OF 'commodatumlaw12.UndoRuns'. -/
def undoRunsCard : Claim7 := { stood := { row := undoRunsRow, standIns := [], harness := (true, "ccfc1fd9e50bf4ada73e29c50ab60ca18893da33b0f1394b1e7622372b095016"), looks := true }, kinds := [], alts := [], laidByText := true, laidKinds := [.data, .data, .data, .data, .sentinel, .sentinel, .listed, .data, .pinned], laidTests := true, laidLooks := .later }
def UndoRunsCardSaid : Prop := Claim7.holds Tryd.pinned (.plain (OpenSpec.ofChange undoRunsSpec)) undoRunsCard

/-- THE TIED CARD OF 'commodatumlaw12.UndoAnds'. -/
def undoAndsCard : Claim7 := { stood := { row := undoAndsRow, standIns := [], harness := (true, "ccfc1fd9e50bf4ada73e29c50ab60ca18893da33b0f1394b1e7622372b095016"), looks := true }, kinds := [], alts := [], laidByText := true, laidKinds := [.data, .data, .data, .data, .sentinel, .sentinel, .listed, .data, .pinned], laidTests := true, laidLooks := .later }
def UndoAndsCardSaid : Prop := Claim7.holds Tryd.pinned (.plain (OpenSpec.ofChange undoAndsSpec)) undoAndsCard

/-- THE SECOND FORM's CARD OF 'commodatumlaw12.UndoParses'. -/
def undoParsesUptoCard : Claim7 := { stood := { row := undoParsesUptoRow, standIns := [], harness := (true, "ccfc1fd9e50bf4ada73e29c50ab60ca18893da33b0f1394b1e7622372b095016"), looks := true }, kinds := [], alts := [], laidByText := true, laidKinds := [.data, .data, .data, .data, .sentinel, .sentinel, .listed, .data, .pinned], laidTests := true, laidLooks := .later }
def UndoParsesUptoCardSaid : Prop := Claim7.holds Tryd.pinned (.plain (OpenSpec.upto undoParsesSpec)) undoParsesUptoCard

/-- THE SECOND FORM's CARD OF 'commodatumlaw12.UndoTables'. -/
def undoTablesUptoCard : Claim7 := { stood := { row := undoTablesUptoRow, standIns := [], harness := (true, "ccfc1fd9e50bf4ada73e29c50ab60ca18893da33b0f1394b1e7622372b095016"), looks := true }, kinds := [], alts := [], laidByText := true, laidKinds := [.data, .data, .data, .data, .sentinel, .sentinel, .listed, .data, .pinned], laidTests := true, laidLooks := .later }
def UndoTablesUptoCardSaid : Prop := Claim7.holds Tryd.pinned (.plain (OpenSpec.upto undoTablesSpec)) undoTablesUptoCard

/-- THE SECOND FORM's CARD OF 'commodatumlaw12.UndoForms'. -/
def undoFormsUptoCard : Claim7 := { stood := { row := undoFormsUptoRow, standIns := [], harness := (true, "ccfc1fd9e50bf4ada73e29c50ab60ca18893da33b0f1394b1e7622372b095016"), looks := true }, kinds := [], alts := [], laidByText := true, laidKinds := [.data, .data, .data, .data, .sentinel, .sentinel, .listed, .data, .pinned], laidTests := true, laidLooks := .later }
def UndoFormsUptoCardSaid : Prop := Claim7.holds Tryd.pinned (.plain (OpenSpec.upto undoFormsSpec)) undoFormsUptoCard

/-- THE SECOND FORM's CARD OF 'commodatumlaw12.UndoBack'. -/
def undoBackUptoCard : Claim7 := { stood := { row := undoBackUptoRow, standIns := [], harness := (true, "ccfc1fd9e50bf4ada73e29c50ab60ca18893da33b0f1394b1e7622372b095016"), looks := true }, kinds := [], alts := [], laidByText := true, laidKinds := [.data, .data, .data, .data, .sentinel, .sentinel, .listed, .data, .pinned], laidTests := true, laidLooks := .later }
def UndoBackUptoCardSaid : Prop := Claim7.holds Tryd.pinned (.plain (OpenSpec.upto undoBackSpec)) undoBackUptoCard

/-- THE SECOND FORM's CARD OF 'commodatumlaw12.UndoReverses'. -/
def undoReversesUptoCard : Claim7 := { stood := { row := undoReversesUptoRow, standIns := [], harness := (true, "ccfc1fd9e50bf4ada73e29c50ab60ca18893da33b0f1394b1e7622372b095016"), looks := true }, kinds := [], alts := [], laidByText := true, laidKinds := [.data, .data, .data, .data, .sentinel, .sentinel, .listed, .data, .pinned], laidTests := true, laidLooks := .later }
def UndoReversesUptoCardSaid : Prop := Claim7.holds Tryd.pinned (.plain (OpenSpec.upto undoReversesSpec)) undoReversesUptoCard

/-- THE SECOND FORM's CARD OF 'commodatumlaw12.UndoNumbers'. -/
def undoNumbersUptoCard : Claim7 := { stood := { row := undoNumbersUptoRow, standIns := [], harness := (true, "ccfc1fd9e50bf4ada73e29c50ab60ca18893da33b0f1394b1e7622372b095016"), looks := true }, kinds := [], alts := [], laidByText := true, laidKinds := [.data, .data, .data, .data, .sentinel, .sentinel, .listed, .data, .pinned], laidTests := true, laidLooks := .later }
def UndoNumbersUptoCardSaid : Prop := Claim7.holds Tryd.pinned (.plain (OpenSpec.upto undoNumbersSpec)) undoNumbersUptoCard

/-- THE SECOND FORM's CARD OF 'commodatumlaw12.UndoJoined'. -/
def undoJoinedUptoCard : Claim7 := { stood := { row := undoJoinedUptoRow, standIns := [], harness := (true, "ccfc1fd9e50bf4ada73e29c50ab60ca18893da33b0f1394b1e7622372b095016"), looks := true }, kinds := [], alts := [], laidByText := true, laidKinds := [.data, .data, .data, .data, .sentinel, .sentinel, .listed, .data, .pinned], laidTests := true, laidLooks := .later }
def UndoJoinedUptoCardSaid : Prop := Claim7.holds Tryd.pinned (.plain (OpenSpec.upto undoJoinedSpec)) undoJoinedUptoCard

/-- THE SECOND FORM's CARD OF 'commodatumlaw12.UndoRuns'. -/
def undoRunsUptoCard : Claim7 := { stood := { row := undoRunsUptoRow, standIns := [], harness := (true, "ccfc1fd9e50bf4ada73e29c50ab60ca18893da33b0f1394b1e7622372b095016"), looks := true }, kinds := [], alts := [], laidByText := true, laidKinds := [.data, .data, .data, .data, .sentinel, .sentinel, .listed, .data, .pinned], laidTests := true, laidLooks := .later }
def UndoRunsUptoCardSaid : Prop := Claim7.holds Tryd.pinned (.plain (OpenSpec.upto undoRunsSpec)) undoRunsUptoCard

/-- THE SECOND FORM's CARD OF 'commodatumlaw12.UndoAnds'. -/
def undoAndsUptoCard : Claim7 := { stood := { row := undoAndsUptoRow, standIns := [], harness := (true, "ccfc1fd9e50bf4ada73e29c50ab60ca18893da33b0f1394b1e7622372b095016"), looks := true }, kinds := [], alts := [], laidByText := true, laidKinds := [.data, .data, .data, .data, .sentinel, .sentinel, .listed, .data, .pinned], laidTests := true, laidLooks := .later }
def UndoAndsUptoCardSaid : Prop := Claim7.holds Tryd.pinned (.plain (OpenSpec.upto undoAndsSpec)) undoAndsUptoCard
end Rows
end Go.Proofs.YthfhnkpipdbekaaDoor
