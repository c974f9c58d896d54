/-
  DERIVED. GIVEN WITH THE SEED: THE CARDS: each row of YtndgjggokjickaaGreatDoorRows.lean that lists a variable, with what it lists TIED to the program's text (the seventh form; the later family's looks); each row that meets fmt, with fmt's text TOLD by the authors' own Lean function (tested against real Go, not proved from fmt's source: count such statements apart). THE CARD IS WHAT COUNTS. Prove the row's statement (the work); the ties are given (YtndgjggokjickaaGreatDoorTie.lean); close each card by the builder's one call (the guide's Derived/Test/ToyasCard.lean, 'card_holds'). Laid BY PROGRAM, IN A SANDBOX (cutbox-door.mjs). By AI agents, Wed Nov 11 2026. No macro, syntax, notation, axiom, sorry.
-/
import Derived.Test.YtndgjggokjickaaGreatDoorRows
import GoSem.ClaimSeven
namespace Go.Proofs.YtndgjggokjickaaGreatDoor
namespace Rows

/-- THE TIED CARD OF 'tidelinelaw16.QueryOrder'. -/
def queryOrderCard : Claim7 := { stood := { row := queryOrderRow, standIns := [], harness := (true, "f425f04e6bcee0d8daff2e57431bb494b4028b0d96072885bf5a7461cf2ec580"), looks := false }, kinds := [], alts := [], laidByText := true, laidKinds := [.data, .data, .data], laidTests := true, laidLooks := .later }
def QueryOrderCardSaid : Prop := Claim7.holds Tryz.pinned (.plain (OpenSpec.ofChange queryOrderSpec)) queryOrderCard

/-- THE TIED CARD OF 'tidelinelaw16.QueryLimit'. -/
def queryLimitCard : Claim7 := { stood := { row := queryLimitRow, standIns := [], harness := (true, "f425f04e6bcee0d8daff2e57431bb494b4028b0d96072885bf5a7461cf2ec580"), looks := false }, kinds := [], alts := [], laidByText := true, laidKinds := [.data, .data, .data], laidTests := true, laidLooks := .later }
def QueryLimitCardSaid : Prop := Claim7.holds Tryz.pinned (.plain (OpenSpec.ofChange queryLimitSpec)) queryLimitCard

/-- THE TIED CARD OF 'tidelinelaw16.QueryGroups'. -/
def queryGroupsCard : Claim7 := { stood := { row := queryGroupsRow, standIns := [], harness := (true, "f425f04e6bcee0d8daff2e57431bb494b4028b0d96072885bf5a7461cf2ec580"), looks := false }, kinds := [], alts := [], laidByText := true, laidKinds := [.data, .data, .data], laidTests := true, laidLooks := .later }
def QueryGroupsCardSaid : Prop := Claim7.holds Tryz.pinned (.plain (OpenSpec.ofChange queryGroupsSpec)) queryGroupsCard

/-- THE TIED CARD OF 'tidelinelaw16.QueryWhere'. -/
def queryWhereCard : Claim7 := { stood := { row := queryWhereRow, standIns := [], harness := (true, "f425f04e6bcee0d8daff2e57431bb494b4028b0d96072885bf5a7461cf2ec580"), looks := false }, kinds := [], alts := [], laidByText := true, laidKinds := [.data, .data, .data], laidTests := true, laidLooks := .later }
def QueryWhereCardSaid : Prop := Claim7.holds Tryz.pinned (.plain (OpenSpec.ofChange queryWhereSpec)) queryWhereCard

/-- THE TIED CARD OF 'tidelinelaw16.QuerySplit'. -/
def querySplitCard : Claim7 := { stood := { row := querySplitRow, standIns := [], harness := (true, "f425f04e6bcee0d8daff2e57431bb494b4028b0d96072885bf5a7461cf2ec580"), looks := false }, kinds := [], alts := [], laidByText := true, laidKinds := [.data, .data, .data], laidTests := true, laidLooks := .later }
def QuerySplitCardSaid : Prop := Claim7.holds Tryz.pinned (.plain (OpenSpec.ofChange querySplitSpec)) querySplitCard

/-- THE TIED CARD OF 'tidelinelaw16.QueryStar'. -/
def queryStarCard : Claim7 := { stood := { row := queryStarRow, standIns := [], harness := (true, "f425f04e6bcee0d8daff2e57431bb494b4028b0d96072885bf5a7461cf2ec580"), looks := false }, kinds := [], alts := [], laidByText := true, laidKinds := [.data, .data, .data], laidTests := true, laidLooks := .later }
def QueryStarCardSaid : Prop := Claim7.holds Tryz.pinned (.plain (OpenSpec.ofChange queryStarSpec)) queryStarCard

/-- THE SECOND FORM's CARD OF 'tidelinelaw16.QueryOrder'. -/
def queryOrderUptoCard : Claim7 := { stood := { row := queryOrderUptoRow, standIns := [], harness := (true, "f425f04e6bcee0d8daff2e57431bb494b4028b0d96072885bf5a7461cf2ec580"), looks := false }, kinds := [], alts := [], laidByText := true, laidKinds := [.data, .data, .data], laidTests := true, laidLooks := .later }
def QueryOrderUptoCardSaid : Prop := Claim7.holds Tryz.pinned (.plain (OpenSpec.upto queryOrderSpec)) queryOrderUptoCard

/-- THE SECOND FORM's CARD OF 'tidelinelaw16.QueryLimit'. -/
def queryLimitUptoCard : Claim7 := { stood := { row := queryLimitUptoRow, standIns := [], harness := (true, "f425f04e6bcee0d8daff2e57431bb494b4028b0d96072885bf5a7461cf2ec580"), looks := false }, kinds := [], alts := [], laidByText := true, laidKinds := [.data, .data, .data], laidTests := true, laidLooks := .later }
def QueryLimitUptoCardSaid : Prop := Claim7.holds Tryz.pinned (.plain (OpenSpec.upto queryLimitSpec)) queryLimitUptoCard

/-- THE SECOND FORM's CARD OF 'tidelinelaw16.QueryGroups'. -/
def queryGroupsUptoCard : Claim7 := { stood := { row := queryGroupsUptoRow, standIns := [], harness := (true, "f425f04e6bcee0d8daff2e57431bb494b4028b0d96072885bf5a7461cf2ec580"), looks := false }, kinds := [], alts := [], laidByText := true, laidKinds := [.data, .data, .data], laidTests := true, laidLooks := .later }
def QueryGroupsUptoCardSaid : Prop := Claim7.holds Tryz.pinned (.plain (OpenSpec.upto queryGroupsSpec)) queryGroupsUptoCard

/-- THE SECOND FORM's CARD OF 'tidelinelaw16.QueryWhere'. -/
def queryWhereUptoCard : Claim7 := { stood := { row := queryWhereUptoRow, standIns := [], harness := (true, "f425f04e6bcee0d8daff2e57431bb494b4028b0d96072885bf5a7461cf2ec580"), looks := false }, kinds := [], alts := [], laidByText := true, laidKinds := [.data, .data, .data], laidTests := true, laidLooks := .later }
def QueryWhereUptoCardSaid : Prop := Claim7.holds Tryz.pinned (.plain (OpenSpec.upto queryWhereSpec)) queryWhereUptoCard

/-- THE SECOND FORM's CARD OF 'tidelinelaw16.QuerySplit'. -/
def querySplitUptoCard : Claim7 := { stood := { row := querySplitUptoRow, standIns := [], harness := (true, "f425f04e6bcee0d8daff2e57431bb494b4028b0d96072885bf5a7461cf2ec580"), looks := false }, kinds := [], alts := [], laidByText := true, laidKinds := [.data, .data, .data], laidTests := true, laidLooks := .later }
def QuerySplitUptoCardSaid : Prop := Claim7.holds Tryz.pinned (.plain (OpenSpec.upto querySplitSpec)) querySplitUptoCard

/-- THE SECOND FORM's CARD OF 'tidelinelaw16.QueryStar'. -/
def queryStarUptoCard : Claim7 := { stood := { row := queryStarUptoRow, standIns := [], harness := (true, "f425f04e6bcee0d8daff2e57431bb494b4028b0d96072885bf5a7461cf2ec580"), looks := false }, kinds := [], alts := [], laidByText := true, laidKinds := [.data, .data, .data], laidTests := true, laidLooks := .later }
def QueryStarUptoCardSaid : Prop := Claim7.holds Tryz.pinned (.plain (OpenSpec.upto queryStarSpec)) queryStarUptoCard
end Rows
end Go.Proofs.YtndgjggokjickaaGreatDoor
