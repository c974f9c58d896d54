/-
  DERIVED. GIVEN WITH THE SEED: THE CARDS: each row of YtfmbcoeallmnnaaGreatDoorRows.lean that lists a variable, with what it lists TIED to the program's text (the seventh form; the later family's looks); each row that meets fmt, with fmt's text TOLD by the authors' own Lean function (tested against real Go, not proved from fmt's source: count such statements apart). THE CARD IS WHAT COUNTS. Prove the row's statement (the work); the ties are given (YtfmbcoeallmnnaaGreatDoorTie.lean); close each card by the builder's one call (the guide's Derived/Test/ToyasCard.lean, 'card_holds'). Laid BY PROGRAM, IN A SANDBOX (cutbox-door.mjs). By AI agents, Wed Nov 11 2026. No macro, syntax, notation, axiom, sorry.
-/
import Derived.Test.YtfmbcoeallmnnaaGreatDoorRows
import GoSem.ClaimSeven
namespace Go.Proofs.YtfmbcoeallmnnaaGreatDoor
namespace Rows

/-- THE TIED CARD OF 'tidelinelaw17.BoundTells'. -/
def boundTellsCard : Claim7 := { stood := { row := boundTellsRow, standIns := [], harness := (true, "fed376d4a450546f01e39c3c4d54268f5ff5b5272d8e10c3323e2def30d5b483"), looks := false }, kinds := [], alts := [], laidByText := true, laidKinds := [.data], laidTests := true, laidLooks := .later }
def BoundTellsCardSaid : Prop := Claim7.holds Tryz.pinned (.plain (OpenSpec.ofChange boundTellsSpec)) boundTellsCard

/-- THE TIED CARD OF 'tidelinelaw17.BoundWindows'. -/
def boundWindowsCard : Claim7 := { stood := { row := boundWindowsRow, standIns := [], harness := (true, "fed376d4a450546f01e39c3c4d54268f5ff5b5272d8e10c3323e2def30d5b483"), looks := false }, kinds := [], alts := [], laidByText := true, laidKinds := [.data], laidTests := true, laidLooks := .later }
def BoundWindowsCardSaid : Prop := Claim7.holds Tryz.pinned (.plain (OpenSpec.ofChange boundWindowsSpec)) boundWindowsCard

/-- THE TIED CARD OF 'tidelinelaw17.BoundHolds'. -/
def boundHoldsCard : Claim7 := { stood := { row := boundHoldsRow, standIns := [], harness := (true, "fed376d4a450546f01e39c3c4d54268f5ff5b5272d8e10c3323e2def30d5b483"), looks := false }, kinds := [], alts := [], laidByText := true, laidKinds := [.data], laidTests := true, laidLooks := .later }
def BoundHoldsCardSaid : Prop := Claim7.holds Tryz.pinned (.plain (OpenSpec.ofChange boundHoldsSpec)) boundHoldsCard

/-- THE SECOND FORM's CARD OF 'tidelinelaw17.BoundTells'. -/
def boundTellsUptoCard : Claim7 := { stood := { row := boundTellsUptoRow, standIns := [], harness := (true, "fed376d4a450546f01e39c3c4d54268f5ff5b5272d8e10c3323e2def30d5b483"), looks := false }, kinds := [], alts := [], laidByText := true, laidKinds := [.data], laidTests := true, laidLooks := .later }
def BoundTellsUptoCardSaid : Prop := Claim7.holds Tryz.pinned (.plain (OpenSpec.upto boundTellsSpec)) boundTellsUptoCard

/-- THE SECOND FORM's CARD OF 'tidelinelaw17.BoundWindows'. -/
def boundWindowsUptoCard : Claim7 := { stood := { row := boundWindowsUptoRow, standIns := [], harness := (true, "fed376d4a450546f01e39c3c4d54268f5ff5b5272d8e10c3323e2def30d5b483"), looks := false }, kinds := [], alts := [], laidByText := true, laidKinds := [.data], laidTests := true, laidLooks := .later }
def BoundWindowsUptoCardSaid : Prop := Claim7.holds Tryz.pinned (.plain (OpenSpec.upto boundWindowsSpec)) boundWindowsUptoCard

/-- THE SECOND FORM's CARD OF 'tidelinelaw17.BoundHolds'. -/
def boundHoldsUptoCard : Claim7 := { stood := { row := boundHoldsUptoRow, standIns := [], harness := (true, "fed376d4a450546f01e39c3c4d54268f5ff5b5272d8e10c3323e2def30d5b483"), looks := false }, kinds := [], alts := [], laidByText := true, laidKinds := [.data], laidTests := true, laidLooks := .later }
def BoundHoldsUptoCardSaid : Prop := Claim7.holds Tryz.pinned (.plain (OpenSpec.upto boundHoldsSpec)) boundHoldsUptoCard
end Rows
end Go.Proofs.YtfmbcoeallmnnaaGreatDoor
