/-
  DERIVED. GIVEN WITH THE SEED: THE CARDS: each row of YtcneefmaghoejaaGreatDoorRows.lean that lists a variable, with what it lists TIED to the program's text (the seventh form; the later family's looks); each row that meets fmt, with fmt's text TOLD by the authors' own Lean function (tested against real Go, not proved from fmt's source: count such statements apart). THE CARD IS WHAT COUNTS. Prove the row's statement (the work); the ties are given (YtcneefmaghoejaaGreatDoorTie.lean); close each card by the builder's one call (the guide's Derived/Test/ToyasCard.lean, 'card_holds'). Laid BY PROGRAM, IN A SANDBOX (cutbox-door.mjs). By AI agents, Wed Nov 11 2026. No macro, syntax, notation, axiom, sorry.
-/
import Derived.Test.YtcneefmaghoejaaGreatDoorRows
import GoSem.ClaimSeven
namespace Go.Proofs.YtcneefmaghoejaaGreatDoor
namespace Rows

/-- THE TIED CARD OF 'tidelinelaw13.ParseTells'. -/
def parseTellsCard : Claim7 := { stood := { row := parseTellsRow, standIns := [], harness := (true, "77921b924fb200a5d9ac9e1c21500ddf7a64f22145ec9a59b6bd333b8c268018"), looks := true }, kinds := [], alts := [], laidByText := true, laidKinds := [.data, .data, .data, .data, .sentinel, .sentinel, .listed, .data, .pinned, .pinned], laidTests := true, laidLooks := .later }
def ParseTellsCardSaid : Prop := Claim7.holds Tryz.pinned (.plain (OpenSpec.ofChange parseTellsSpec)) parseTellsCard

/-- THE TIED CARD OF 'tidelinelaw13.ParseLaid'. -/
def parseLaidCard : Claim7 := { stood := { row := parseLaidRow, standIns := [], harness := (true, "77921b924fb200a5d9ac9e1c21500ddf7a64f22145ec9a59b6bd333b8c268018"), looks := true }, kinds := [], alts := [], laidByText := true, laidKinds := [.data, .data, .data, .data, .sentinel, .sentinel, .listed, .data, .pinned, .pinned], laidTests := true, laidLooks := .later }
def ParseLaidCardSaid : Prop := Claim7.holds Tryz.pinned (.plain (OpenSpec.ofChange parseLaidSpec)) parseLaidCard

/-- THE TIED CARD OF 'tidelinelaw13.ParseCuts'. -/
def parseCutsCard : Claim7 := { stood := { row := parseCutsRow, standIns := [], harness := (true, "77921b924fb200a5d9ac9e1c21500ddf7a64f22145ec9a59b6bd333b8c268018"), looks := true }, kinds := [], alts := [], laidByText := true, laidKinds := [.data, .data, .data, .data, .sentinel, .sentinel, .listed, .data, .pinned, .pinned], laidTests := true, laidLooks := .later }
def ParseCutsCardSaid : Prop := Claim7.holds Tryz.pinned (.plain (OpenSpec.ofChange parseCutsSpec)) parseCutsCard

/-- THE TIED CARD OF 'tidelinelaw13.ParseDeep'. -/
def parseDeepCard : Claim7 := { stood := { row := parseDeepRow, standIns := [], harness := (true, "77921b924fb200a5d9ac9e1c21500ddf7a64f22145ec9a59b6bd333b8c268018"), looks := true }, kinds := [], alts := [], laidByText := true, laidKinds := [.data, .data, .data, .data, .sentinel, .sentinel, .listed, .data, .pinned, .pinned], laidTests := true, laidLooks := .later }
def ParseDeepCardSaid : Prop := Claim7.holds Tryz.pinned (.plain (OpenSpec.ofChange parseDeepSpec)) parseDeepCard

/-- THE TIED CARD OF 'tidelinelaw13.ParseCase'. -/
def parseCaseCard : Claim7 := { stood := { row := parseCaseRow, standIns := [], harness := (true, "77921b924fb200a5d9ac9e1c21500ddf7a64f22145ec9a59b6bd333b8c268018"), looks := true }, kinds := [], alts := [], laidByText := true, laidKinds := [.data, .data, .data, .data, .sentinel, .sentinel, .listed, .data, .pinned, .pinned], laidTests := true, laidLooks := .later }
def ParseCaseCardSaid : Prop := Claim7.holds Tryz.pinned (.plain (OpenSpec.ofChange parseCaseSpec)) parseCaseCard

/-- THE TIED CARD OF 'tidelinelaw13.ParseBrackets'. -/
def parseBracketsCard : Claim7 := { stood := { row := parseBracketsRow, standIns := [], harness := (true, "77921b924fb200a5d9ac9e1c21500ddf7a64f22145ec9a59b6bd333b8c268018"), looks := true }, kinds := [], alts := [], laidByText := true, laidKinds := [.data, .data, .data, .data, .sentinel, .sentinel, .listed, .data, .pinned, .pinned], laidTests := true, laidLooks := .later }
def ParseBracketsCardSaid : Prop := Claim7.holds Tryz.pinned (.plain (OpenSpec.ofChange parseBracketsSpec)) parseBracketsCard

/-- THE SECOND FORM's CARD OF 'tidelinelaw13.ParseTells'. -/
def parseTellsUptoCard : Claim7 := { stood := { row := parseTellsUptoRow, standIns := [], harness := (true, "77921b924fb200a5d9ac9e1c21500ddf7a64f22145ec9a59b6bd333b8c268018"), looks := true }, kinds := [], alts := [], laidByText := true, laidKinds := [.data, .data, .data, .data, .sentinel, .sentinel, .listed, .data, .pinned, .pinned], laidTests := true, laidLooks := .later }
def ParseTellsUptoCardSaid : Prop := Claim7.holds Tryz.pinned (.plain (OpenSpec.upto parseTellsSpec)) parseTellsUptoCard

/-- THE SECOND FORM's CARD OF 'tidelinelaw13.ParseLaid'. -/
def parseLaidUptoCard : Claim7 := { stood := { row := parseLaidUptoRow, standIns := [], harness := (true, "77921b924fb200a5d9ac9e1c21500ddf7a64f22145ec9a59b6bd333b8c268018"), looks := true }, kinds := [], alts := [], laidByText := true, laidKinds := [.data, .data, .data, .data, .sentinel, .sentinel, .listed, .data, .pinned, .pinned], laidTests := true, laidLooks := .later }
def ParseLaidUptoCardSaid : Prop := Claim7.holds Tryz.pinned (.plain (OpenSpec.upto parseLaidSpec)) parseLaidUptoCard

/-- THE SECOND FORM's CARD OF 'tidelinelaw13.ParseCuts'. -/
def parseCutsUptoCard : Claim7 := { stood := { row := parseCutsUptoRow, standIns := [], harness := (true, "77921b924fb200a5d9ac9e1c21500ddf7a64f22145ec9a59b6bd333b8c268018"), looks := true }, kinds := [], alts := [], laidByText := true, laidKinds := [.data, .data, .data, .data, .sentinel, .sentinel, .listed, .data, .pinned, .pinned], laidTests := true, laidLooks := .later }
def ParseCutsUptoCardSaid : Prop := Claim7.holds Tryz.pinned (.plain (OpenSpec.upto parseCutsSpec)) parseCutsUptoCard

/-- THE SECOND FORM's CARD OF 'tidelinelaw13.ParseDeep'. -/
def parseDeepUptoCard : Claim7 := { stood := { row := parseDeepUptoRow, standIns := [], harness := (true, "77921b924fb200a5d9ac9e1c21500ddf7a64f22145ec9a59b6bd333b8c268018"), looks := true }, kinds := [], alts := [], laidByText := true, laidKinds := [.data, .data, .data, .data, .sentinel, .sentinel, .listed, .data, .pinned, .pinned], laidTests := true, laidLooks := .later }
def ParseDeepUptoCardSaid : Prop := Claim7.holds Tryz.pinned (.plain (OpenSpec.upto parseDeepSpec)) parseDeepUptoCard

/-- THE SECOND FORM's CARD OF 'tidelinelaw13.ParseCase'. -/
def parseCaseUptoCard : Claim7 := { stood := { row := parseCaseUptoRow, standIns := [], harness := (true, "77921b924fb200a5d9ac9e1c21500ddf7a64f22145ec9a59b6bd333b8c268018"), looks := true }, kinds := [], alts := [], laidByText := true, laidKinds := [.data, .data, .data, .data, .sentinel, .sentinel, .listed, .data, .pinned, .pinned], laidTests := true, laidLooks := .later }
def ParseCaseUptoCardSaid : Prop := Claim7.holds Tryz.pinned (.plain (OpenSpec.upto parseCaseSpec)) parseCaseUptoCard

/-- THE SECOND FORM's CARD OF 'tidelinelaw13.ParseBrackets'. -/
def parseBracketsUptoCard : Claim7 := { stood := { row := parseBracketsUptoRow, standIns := [], harness := (true, "77921b924fb200a5d9ac9e1c21500ddf7a64f22145ec9a59b6bd333b8c268018"), looks := true }, kinds := [], alts := [], laidByText := true, laidKinds := [.data, .data, .data, .data, .sentinel, .sentinel, .listed, .data, .pinned, .pinned], laidTests := true, laidLooks := .later }
def ParseBracketsUptoCardSaid : Prop := Claim7.holds Tryz.pinned (.plain (OpenSpec.upto parseBracketsSpec)) parseBracketsUptoCard
end Rows
end Go.Proofs.YtcneefmaghoejaaGreatDoor
