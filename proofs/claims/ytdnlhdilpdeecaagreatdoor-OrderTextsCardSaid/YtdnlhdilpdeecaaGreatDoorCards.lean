/-
  DERIVED. GIVEN WITH THE SEED: THE CARDS: each row of YtdnlhdilpdeecaaGreatDoorRows.lean that lists a variable, with what it lists TIED to the program's text (the seventh form; the later family's looks); each row that meets fmt, with fmt's text TOLD by the authors' own Lean function (tested against real Go, not proved from fmt's source: count such statements apart). THE CARD IS WHAT COUNTS. Prove the row's statement (the work); the ties are given (YtdnlhdilpdeecaaGreatDoorTie.lean); close each card by the builder's one call (the guide's Derived/Test/ToyasCard.lean, 'card_holds'). Laid BY PROGRAM, IN A SANDBOX (cutbox-door.mjs). By AI agents, Wed Nov 11 2026. No macro, syntax, notation, axiom, sorry.
-/
import Derived.Test.YtdnlhdilpdeecaaGreatDoorRows
import GoSem.ClaimSeven
namespace Go.Proofs.YtdnlhdilpdeecaaGreatDoor
namespace Rows

/-- THE TIED CARD OF 'rflaw2.ProductsGrouped'. -/
def productsGroupedCard : Claim7 := { stood := { row := productsGroupedRow, standIns := [], harness := (true, "bf111280a378d33d13cb2bc7fb00fbf981f267255710b64dea4b960e932d4470"), looks := true }, kinds := [], alts := [], laidByText := true, laidKinds := [.data, .pinned], laidTests := true, laidLooks := .later }
def ProductsGroupedCardSaid : Prop := Claim7.holds Tryz.pinned (.plain (OpenSpec.ofChange productsGroupedSpec)) productsGroupedCard

/-- THE TIED CARD OF 'rflaw2.BoardsJudged'. -/
def boardsJudgedCard : Claim7 := { stood := { row := boardsJudgedRow, standIns := [], harness := (true, "bf111280a378d33d13cb2bc7fb00fbf981f267255710b64dea4b960e932d4470"), looks := true }, kinds := [], alts := [], laidByText := true, laidKinds := [.data, .data, .data, .data, .pinned], laidTests := true, laidLooks := .later }
def BoardsJudgedCardSaid : Prop := Claim7.holds Tryz.pinned (.plain (OpenSpec.ofChange boardsJudgedSpec)) boardsJudgedCard

/-- THE TIED CARD OF 'rfkeep2.PositionsAreRows'. -/
def positionsAreRowsCard : Claim7 := { stood := { row := positionsAreRowsRow, standIns := [], harness := (true, "bf111280a378d33d13cb2bc7fb00fbf981f267255710b64dea4b960e932d4470"), looks := true }, kinds := [], alts := [], laidByText := true, laidKinds := [.data, .data, .data, .data, .sentinel, .sentinel, .pinned], laidTests := true, laidLooks := .later }
def PositionsAreRowsCardSaid : Prop := Claim7.holds Tryz.pinned (.plain (OpenSpec.ofChange positionsAreRowsSpec)) positionsAreRowsCard

/-- THE TIED CARD OF 'rflaw2.ProductTexts'. -/
def productTextsCard : Claim7 := { stood := { row := productTextsRow, standIns := [], harness := (true, "bf111280a378d33d13cb2bc7fb00fbf981f267255710b64dea4b960e932d4470"), looks := true }, kinds := [], alts := [], laidByText := true, laidKinds := [.data, .data, .data, .data, .sentinel, .sentinel, .pinned], laidTests := true, laidLooks := .later }
def ProductTextsCardSaid : Prop := Claim7.holds Tryz.pinned (.plain (OpenSpec.ofChange productTextsSpec)) productTextsCard

/-- THE TIED CARD OF 'rflaw2.OrderTexts'. -/
def orderTextsCard : Claim7 := { stood := { row := orderTextsRow, standIns := [], harness := (true, "bf111280a378d33d13cb2bc7fb00fbf981f267255710b64dea4b960e932d4470"), looks := true }, kinds := [], alts := [], laidByText := true, laidKinds := [.data, .data, .data, .data, .sentinel, .sentinel, .pinned], laidTests := true, laidLooks := .later }
def OrderTextsCardSaid : Prop := Claim7.holds Tryz.pinned (.plain (OpenSpec.ofChange orderTextsSpec)) orderTextsCard

/-- THE TIED CARD OF 'rflaw2.LookTexts'. -/
def lookTextsCard : Claim7 := { stood := { row := lookTextsRow, standIns := [], harness := (true, "bf111280a378d33d13cb2bc7fb00fbf981f267255710b64dea4b960e932d4470"), looks := true }, kinds := [], alts := [], laidByText := true, laidKinds := [.data, .data, .data, .data, .sentinel, .sentinel, .pinned], laidTests := true, laidLooks := .later }
def LookTextsCardSaid : Prop := Claim7.holds Tryz.pinned (.plain (OpenSpec.ofChange lookTextsSpec)) lookTextsCard

/-- THE TIED CARD OF 'rfkeep2.ProductsComeBack'. -/
def productsComeBackCard : Claim7 := { stood := { row := productsComeBackRow, standIns := [], harness := (true, "bf111280a378d33d13cb2bc7fb00fbf981f267255710b64dea4b960e932d4470"), looks := true }, kinds := [], alts := [], laidByText := true, laidKinds := [.data, .data, .data, .data, .sentinel, .sentinel, .pinned], laidTests := true, laidLooks := .later }
def ProductsComeBackCardSaid : Prop := Claim7.holds Tryz.pinned (.plain (OpenSpec.ofChange productsComeBackSpec)) productsComeBackCard

/-- THE SECOND FORM's CARD OF 'rflaw2.ProductsGrouped'. -/
def productsGroupedUptoCard : Claim7 := { stood := { row := productsGroupedUptoRow, standIns := [], harness := (true, "bf111280a378d33d13cb2bc7fb00fbf981f267255710b64dea4b960e932d4470"), looks := true }, kinds := [], alts := [], laidByText := true, laidKinds := [.data, .pinned], laidTests := true, laidLooks := .later }
def ProductsGroupedUptoCardSaid : Prop := Claim7.holds Tryz.pinned (.plain (OpenSpec.upto productsGroupedSpec)) productsGroupedUptoCard

/-- THE SECOND FORM's CARD OF 'rflaw2.BoardsJudged'. -/
def boardsJudgedUptoCard : Claim7 := { stood := { row := boardsJudgedUptoRow, standIns := [], harness := (true, "bf111280a378d33d13cb2bc7fb00fbf981f267255710b64dea4b960e932d4470"), looks := true }, kinds := [], alts := [], laidByText := true, laidKinds := [.data, .data, .data, .data, .pinned], laidTests := true, laidLooks := .later }
def BoardsJudgedUptoCardSaid : Prop := Claim7.holds Tryz.pinned (.plain (OpenSpec.upto boardsJudgedSpec)) boardsJudgedUptoCard

/-- THE SECOND FORM's CARD OF 'rfkeep2.PositionsAreRows'. -/
def positionsAreRowsUptoCard : Claim7 := { stood := { row := positionsAreRowsUptoRow, standIns := [], harness := (true, "bf111280a378d33d13cb2bc7fb00fbf981f267255710b64dea4b960e932d4470"), looks := true }, kinds := [], alts := [], laidByText := true, laidKinds := [.data, .data, .data, .data, .sentinel, .sentinel, .pinned], laidTests := true, laidLooks := .later }
def PositionsAreRowsUptoCardSaid : Prop := Claim7.holds Tryz.pinned (.plain (OpenSpec.upto positionsAreRowsSpec)) positionsAreRowsUptoCard

/-- THE SECOND FORM's CARD OF 'rflaw2.ProductTexts'. -/
def productTextsUptoCard : Claim7 := { stood := { row := productTextsUptoRow, standIns := [], harness := (true, "bf111280a378d33d13cb2bc7fb00fbf981f267255710b64dea4b960e932d4470"), looks := true }, kinds := [], alts := [], laidByText := true, laidKinds := [.data, .data, .data, .data, .sentinel, .sentinel, .pinned], laidTests := true, laidLooks := .later }
def ProductTextsUptoCardSaid : Prop := Claim7.holds Tryz.pinned (.plain (OpenSpec.upto productTextsSpec)) productTextsUptoCard

/-- THE SECOND FORM's CARD OF 'rflaw2.OrderTexts'. -/
def orderTextsUptoCard : Claim7 := { stood := { row := orderTextsUptoRow, standIns := [], harness := (true, "bf111280a378d33d13cb2bc7fb00fbf981f267255710b64dea4b960e932d4470"), looks := true }, kinds := [], alts := [], laidByText := true, laidKinds := [.data, .data, .data, .data, .sentinel, .sentinel, .pinned], laidTests := true, laidLooks := .later }
def OrderTextsUptoCardSaid : Prop := Claim7.holds Tryz.pinned (.plain (OpenSpec.upto orderTextsSpec)) orderTextsUptoCard

/-- THE SECOND FORM's CARD OF 'rflaw2.LookTexts'. -/
def lookTextsUptoCard : Claim7 := { stood := { row := lookTextsUptoRow, standIns := [], harness := (true, "bf111280a378d33d13cb2bc7fb00fbf981f267255710b64dea4b960e932d4470"), looks := true }, kinds := [], alts := [], laidByText := true, laidKinds := [.data, .data, .data, .data, .sentinel, .sentinel, .pinned], laidTests := true, laidLooks := .later }
def LookTextsUptoCardSaid : Prop := Claim7.holds Tryz.pinned (.plain (OpenSpec.upto lookTextsSpec)) lookTextsUptoCard

/-- THE SECOND FORM's CARD OF 'rfkeep2.ProductsComeBack'. -/
def productsComeBackUptoCard : Claim7 := { stood := { row := productsComeBackUptoRow, standIns := [], harness := (true, "bf111280a378d33d13cb2bc7fb00fbf981f267255710b64dea4b960e932d4470"), looks := true }, kinds := [], alts := [], laidByText := true, laidKinds := [.data, .data, .data, .data, .sentinel, .sentinel, .pinned], laidTests := true, laidLooks := .later }
def ProductsComeBackUptoCardSaid : Prop := Claim7.holds Tryz.pinned (.plain (OpenSpec.upto productsComeBackSpec)) productsComeBackUptoCard
end Rows
end Go.Proofs.YtdnlhdilpdeecaaGreatDoor
