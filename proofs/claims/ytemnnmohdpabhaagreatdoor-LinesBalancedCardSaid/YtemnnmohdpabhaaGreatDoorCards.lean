/-
  DERIVED. GIVEN WITH THE SEED: THE CARDS: each row of YtemnnmohdpabhaaGreatDoorRows.lean that lists a variable, with what it lists TIED to the program's text (the seventh form; the later family's looks); each row that meets fmt, with fmt's text TOLD by the authors' own Lean function (tested against real Go, not proved from fmt's source: count such statements apart). THE CARD IS WHAT COUNTS. Prove the row's statement (the work); the ties are given (YtemnnmohdpabhaaGreatDoorTie.lean); close each card by the builder's one call (the guide's Derived/Test/ToyasCard.lean, 'card_holds'). Laid BY PROGRAM, IN A SANDBOX (cutbox-door.mjs). By AI agents, Wed Nov 11 2026. No macro, syntax, notation, axiom, sorry.
-/
import Derived.Test.YtemnnmohdpabhaaGreatDoorRows
import GoSem.ClaimSeven
namespace Go.Proofs.YtemnnmohdpabhaaGreatDoor
namespace Rows

/-- THE TIED CARD OF 'rflaw2.LinesBalanced'. -/
def linesBalancedCard : Claim7 := { stood := { row := linesBalancedRow, standIns := [], harness := (true, "ac7ba9d040ae279b23ba998230eb33f30bd3cb6566ee38e0665c46f7ac5bbd4e"), looks := true }, kinds := [], alts := [], laidByText := true, laidKinds := [.data, .pinned], laidTests := true, laidLooks := .later }
def LinesBalancedCardSaid : Prop := Claim7.holds Tryz.pinned (.plain (OpenSpec.ofChange linesBalancedSpec)) linesBalancedCard

/-- THE TIED CARD OF 'rfkeep2.GroupsHoldAll'. -/
def groupsHoldAllCard : Claim7 := { stood := { row := groupsHoldAllRow, standIns := [], harness := (true, "ac7ba9d040ae279b23ba998230eb33f30bd3cb6566ee38e0665c46f7ac5bbd4e"), looks := true }, kinds := [], alts := [], laidByText := true, laidKinds := [.data, .pinned], laidTests := true, laidLooks := .later }
def GroupsHoldAllCardSaid : Prop := Claim7.holds Tryz.pinned (.plain (OpenSpec.ofChange groupsHoldAllSpec)) groupsHoldAllCard

/-- THE TIED CARD OF 'rflaw2.ProductsGrouped'. -/
def productsGroupedCard : Claim7 := { stood := { row := productsGroupedRow, standIns := [], harness := (true, "ac7ba9d040ae279b23ba998230eb33f30bd3cb6566ee38e0665c46f7ac5bbd4e"), looks := true }, kinds := [], alts := [], laidByText := true, laidKinds := [.data, .pinned], laidTests := true, laidLooks := .later }
def ProductsGroupedCardSaid : Prop := Claim7.holds Tryz.pinned (.plain (OpenSpec.ofChange productsGroupedSpec)) productsGroupedCard

/-- THE TIED CARD OF 'rflaw2.BoardsJudged'. -/
def boardsJudgedCard : Claim7 := { stood := { row := boardsJudgedRow, standIns := [], harness := (true, "ac7ba9d040ae279b23ba998230eb33f30bd3cb6566ee38e0665c46f7ac5bbd4e"), looks := true }, kinds := [], alts := [], laidByText := true, laidKinds := [.data, .data, .data, .data, .pinned], laidTests := true, laidLooks := .later }
def BoardsJudgedCardSaid : Prop := Claim7.holds Tryz.pinned (.plain (OpenSpec.ofChange boardsJudgedSpec)) boardsJudgedCard

/-- THE TIED CARD OF 'rfkeep2.PositionsAreRows'. -/
def positionsAreRowsCard : Claim7 := { stood := { row := positionsAreRowsRow, standIns := [], harness := (true, "ac7ba9d040ae279b23ba998230eb33f30bd3cb6566ee38e0665c46f7ac5bbd4e"), looks := true }, kinds := [], alts := [], laidByText := true, laidKinds := [.data, .data, .data, .data, .sentinel, .sentinel, .pinned], laidTests := true, laidLooks := .later }
def PositionsAreRowsCardSaid : Prop := Claim7.holds Tryz.pinned (.plain (OpenSpec.ofChange positionsAreRowsSpec)) positionsAreRowsCard

/-- THE SECOND FORM's CARD OF 'rflaw2.LinesBalanced'. -/
def linesBalancedUptoCard : Claim7 := { stood := { row := linesBalancedUptoRow, standIns := [], harness := (true, "ac7ba9d040ae279b23ba998230eb33f30bd3cb6566ee38e0665c46f7ac5bbd4e"), looks := true }, kinds := [], alts := [], laidByText := true, laidKinds := [.data, .pinned], laidTests := true, laidLooks := .later }
def LinesBalancedUptoCardSaid : Prop := Claim7.holds Tryz.pinned (.plain (OpenSpec.upto linesBalancedSpec)) linesBalancedUptoCard

/-- THE SECOND FORM's CARD OF 'rfkeep2.GroupsHoldAll'. -/
def groupsHoldAllUptoCard : Claim7 := { stood := { row := groupsHoldAllUptoRow, standIns := [], harness := (true, "ac7ba9d040ae279b23ba998230eb33f30bd3cb6566ee38e0665c46f7ac5bbd4e"), looks := true }, kinds := [], alts := [], laidByText := true, laidKinds := [.data, .pinned], laidTests := true, laidLooks := .later }
def GroupsHoldAllUptoCardSaid : Prop := Claim7.holds Tryz.pinned (.plain (OpenSpec.upto groupsHoldAllSpec)) groupsHoldAllUptoCard

/-- THE SECOND FORM's CARD OF 'rflaw2.ProductsGrouped'. -/
def productsGroupedUptoCard : Claim7 := { stood := { row := productsGroupedUptoRow, standIns := [], harness := (true, "ac7ba9d040ae279b23ba998230eb33f30bd3cb6566ee38e0665c46f7ac5bbd4e"), looks := true }, kinds := [], alts := [], laidByText := true, laidKinds := [.data, .pinned], laidTests := true, laidLooks := .later }
def ProductsGroupedUptoCardSaid : Prop := Claim7.holds Tryz.pinned (.plain (OpenSpec.upto productsGroupedSpec)) productsGroupedUptoCard

/-- THE SECOND FORM's CARD OF 'rflaw2.BoardsJudged'. -/
def boardsJudgedUptoCard : Claim7 := { stood := { row := boardsJudgedUptoRow, standIns := [], harness := (true, "ac7ba9d040ae279b23ba998230eb33f30bd3cb6566ee38e0665c46f7ac5bbd4e"), looks := true }, kinds := [], alts := [], laidByText := true, laidKinds := [.data, .data, .data, .data, .pinned], laidTests := true, laidLooks := .later }
def BoardsJudgedUptoCardSaid : Prop := Claim7.holds Tryz.pinned (.plain (OpenSpec.upto boardsJudgedSpec)) boardsJudgedUptoCard

/-- THE SECOND FORM's CARD OF 'rfkeep2.PositionsAreRows'. -/
def positionsAreRowsUptoCard : Claim7 := { stood := { row := positionsAreRowsUptoRow, standIns := [], harness := (true, "ac7ba9d040ae279b23ba998230eb33f30bd3cb6566ee38e0665c46f7ac5bbd4e"), looks := true }, kinds := [], alts := [], laidByText := true, laidKinds := [.data, .data, .data, .data, .sentinel, .sentinel, .pinned], laidTests := true, laidLooks := .later }
def PositionsAreRowsUptoCardSaid : Prop := Claim7.holds Tryz.pinned (.plain (OpenSpec.upto positionsAreRowsSpec)) positionsAreRowsUptoCard
end Rows
end Go.Proofs.YtemnnmohdpabhaaGreatDoor
