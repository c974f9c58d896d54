/-
  DERIVED. GIVEN WITH THE SEED: THE CARDS: each row of YtehhdlgjfdnafaaGreatDoorRows.lean that lists a variable, with what it lists TIED to the program's text (the seventh form; the later family's looks); each row that meets fmt, with fmt's text TOLD by the authors' own Lean function (tested against real Go, not proved from fmt's source: count such statements apart). THE CARD IS WHAT COUNTS. Prove the row's statement (the work); the ties are given (YtehhdlgjfdnafaaGreatDoorTie.lean); close each card by the builder's one call (the guide's Derived/Test/ToyasCard.lean, 'card_holds'). Laid BY PROGRAM, IN A SANDBOX (cutbox-door.mjs). By AI agents, Wed Nov 11 2026. No macro, syntax, notation, axiom, sorry.
-/
import Derived.Test.YtehhdlgjfdnafaaGreatDoorRows
import GoSem.ClaimSeven
namespace Go.Proofs.YtehhdlgjfdnafaaGreatDoor
namespace Rows

/-- THE TIED CARD OF 'tidelinelaw14.PrintTells'. -/
def printTellsCard : Claim7 := { stood := { row := printTellsRow, standIns := [], harness := (true, "34d6e3b6a0c6479b7dc1cf1aa9d05094207bd447a6098aefdae6770949cc8859"), looks := true }, kinds := [], alts := [], laidByText := true, laidKinds := [.data, .data, .data, .data, .listed, .data, .pinned], laidTests := true, laidLooks := .later }
def PrintTellsCardSaid : Prop := Claim7.holds Tryz.pinned (.plain (OpenSpec.ofChange printTellsSpec)) printTellsCard

/-- THE TIED CARD OF 'tidelinelaw14.PrintBack'. -/
def printBackCard : Claim7 := { stood := { row := printBackRow, standIns := [], harness := (true, "34d6e3b6a0c6479b7dc1cf1aa9d05094207bd447a6098aefdae6770949cc8859"), looks := true }, kinds := [], alts := [], laidByText := true, laidKinds := [.data, .data, .data, .data, .sentinel, .sentinel, .listed, .data, .pinned, .pinned], laidTests := true, laidLooks := .later }
def PrintBackCardSaid : Prop := Claim7.holds Tryz.pinned (.plain (OpenSpec.ofChange printBackSpec)) printBackCard

/-- THE TIED CARD OF 'tidelinelaw14.PrintForm'. -/
def printFormCard : Claim7 := { stood := { row := printFormRow, standIns := [], harness := (true, "34d6e3b6a0c6479b7dc1cf1aa9d05094207bd447a6098aefdae6770949cc8859"), looks := true }, kinds := [], alts := [], laidByText := true, laidKinds := [.data, .data, .data, .data, .sentinel, .sentinel, .listed, .data, .pinned, .pinned], laidTests := true, laidLooks := .later }
def PrintFormCardSaid : Prop := Claim7.holds Tryz.pinned (.plain (OpenSpec.ofChange printFormSpec)) printFormCard

/-- THE TIED CARD OF 'tidelinelaw14.PrintExpr'. -/
def printExprCard : Claim7 := { stood := { row := printExprRow, standIns := [], harness := (true, "34d6e3b6a0c6479b7dc1cf1aa9d05094207bd447a6098aefdae6770949cc8859"), looks := true }, kinds := [], alts := [], laidByText := true, laidKinds := [.data, .data, .data, .data, .sentinel, .sentinel, .listed, .data, .pinned, .pinned], laidTests := true, laidLooks := .later }
def PrintExprCardSaid : Prop := Claim7.holds Tryz.pinned (.plain (OpenSpec.ofChange printExprSpec)) printExprCard

/-- THE SECOND FORM's CARD OF 'tidelinelaw14.PrintTells'. -/
def printTellsUptoCard : Claim7 := { stood := { row := printTellsUptoRow, standIns := [], harness := (true, "34d6e3b6a0c6479b7dc1cf1aa9d05094207bd447a6098aefdae6770949cc8859"), looks := true }, kinds := [], alts := [], laidByText := true, laidKinds := [.data, .data, .data, .data, .listed, .data, .pinned], laidTests := true, laidLooks := .later }
def PrintTellsUptoCardSaid : Prop := Claim7.holds Tryz.pinned (.plain (OpenSpec.upto printTellsSpec)) printTellsUptoCard

/-- THE SECOND FORM's CARD OF 'tidelinelaw14.PrintBack'. -/
def printBackUptoCard : Claim7 := { stood := { row := printBackUptoRow, standIns := [], harness := (true, "34d6e3b6a0c6479b7dc1cf1aa9d05094207bd447a6098aefdae6770949cc8859"), looks := true }, kinds := [], alts := [], laidByText := true, laidKinds := [.data, .data, .data, .data, .sentinel, .sentinel, .listed, .data, .pinned, .pinned], laidTests := true, laidLooks := .later }
def PrintBackUptoCardSaid : Prop := Claim7.holds Tryz.pinned (.plain (OpenSpec.upto printBackSpec)) printBackUptoCard

/-- THE SECOND FORM's CARD OF 'tidelinelaw14.PrintForm'. -/
def printFormUptoCard : Claim7 := { stood := { row := printFormUptoRow, standIns := [], harness := (true, "34d6e3b6a0c6479b7dc1cf1aa9d05094207bd447a6098aefdae6770949cc8859"), looks := true }, kinds := [], alts := [], laidByText := true, laidKinds := [.data, .data, .data, .data, .sentinel, .sentinel, .listed, .data, .pinned, .pinned], laidTests := true, laidLooks := .later }
def PrintFormUptoCardSaid : Prop := Claim7.holds Tryz.pinned (.plain (OpenSpec.upto printFormSpec)) printFormUptoCard

/-- THE SECOND FORM's CARD OF 'tidelinelaw14.PrintExpr'. -/
def printExprUptoCard : Claim7 := { stood := { row := printExprUptoRow, standIns := [], harness := (true, "34d6e3b6a0c6479b7dc1cf1aa9d05094207bd447a6098aefdae6770949cc8859"), looks := true }, kinds := [], alts := [], laidByText := true, laidKinds := [.data, .data, .data, .data, .sentinel, .sentinel, .listed, .data, .pinned, .pinned], laidTests := true, laidLooks := .later }
def PrintExprUptoCardSaid : Prop := Claim7.holds Tryz.pinned (.plain (OpenSpec.upto printExprSpec)) printExprUptoCard
end Rows
end Go.Proofs.YtehhdlgjfdnafaaGreatDoor
