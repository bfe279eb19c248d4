/-
  DERIVED. GIVEN WITH THE SEED: THE CARDS: each row of YtmahammdnmmmoaaGreatDoorRows.lean that lists a variable, with what it lists TIED to the program's text (the seventh form; the later family's looks); each row that meets fmt, with fmt's text TOLD by the authors' own Lean function (tested against real Go, not proved from fmt's source: count such statements apart). THE CARD IS WHAT COUNTS. Prove the row's statement (the work); the ties are given (YtmahammdnmmmoaaGreatDoorTie.lean); close each card by the builder's one call (the guide's Derived/Test/ToyasCard.lean, 'card_holds'). Laid BY PROGRAM, IN A SANDBOX (cutbox-door.mjs). By AI agents, Wed Nov 11 2026. No macro, syntax, notation, axiom, sorry.
-/
import Derived.Test.YtmahammdnmmmoaaGreatDoorRows
import GoSem.ClaimSeven
namespace Go.Proofs.YtmahammdnmmmoaaGreatDoor
namespace Rows

/-- THE TIED CARD OF 'rflaw2.SchedulesFound'. -/
def schedulesFoundCard : Claim7 := { stood := { row := schedulesFoundRow, standIns := [], harness := (true, "c6801d5525a0cfd807f67288657864e5c1044dc529f795648be00b6ebd59c09f"), looks := true }, kinds := [], alts := [], laidByText := true, laidKinds := [.data, .pinned], laidTests := true, laidLooks := .later }
def SchedulesFoundCardSaid : Prop := Claim7.holds Tryz.pinned (.plain (OpenSpec.ofChange schedulesFoundSpec)) schedulesFoundCard

/-- THE TIED CARD OF 'rflaw2.OrdersPromised'. -/
def ordersPromisedCard : Claim7 := { stood := { row := ordersPromisedRow, standIns := [], harness := (true, "c6801d5525a0cfd807f67288657864e5c1044dc529f795648be00b6ebd59c09f"), looks := true }, kinds := [], alts := [], laidByText := true, laidKinds := [.data, .pinned], laidTests := true, laidLooks := .later }
def OrdersPromisedCardSaid : Prop := Claim7.holds Tryz.pinned (.plain (OpenSpec.ofChange ordersPromisedSpec)) ordersPromisedCard

/-- THE TIED CARD OF 'rflaw2.LooksCounted'. -/
def looksCountedCard : Claim7 := { stood := { row := looksCountedRow, standIns := [], harness := (true, "c6801d5525a0cfd807f67288657864e5c1044dc529f795648be00b6ebd59c09f"), looks := true }, kinds := [], alts := [], laidByText := true, laidKinds := [.data, .data, .data, .data, .pinned], laidTests := true, laidLooks := .later }
def LooksCountedCardSaid : Prop := Claim7.holds Tryz.pinned (.plain (OpenSpec.ofChange looksCountedSpec)) looksCountedCard

/-- THE TIED CARD OF 'rflaw2.CausesFound'. -/
def causesFoundCard : Claim7 := { stood := { row := causesFoundRow, standIns := [], harness := (true, "c6801d5525a0cfd807f67288657864e5c1044dc529f795648be00b6ebd59c09f"), looks := true }, kinds := [], alts := [], laidByText := true, laidKinds := [.data, .data, .data, .data, .pinned], laidTests := true, laidLooks := .later }
def CausesFoundCardSaid : Prop := Claim7.holds Tryz.pinned (.plain (OpenSpec.ofChange causesFoundSpec)) causesFoundCard

/-- THE TIED CARD OF 'rftop.TopTracesReels'. -/
def topTracesReelsCard : Claim7 := { stood := { row := topTracesReelsRow, standIns := [], harness := (true, "c6801d5525a0cfd807f67288657864e5c1044dc529f795648be00b6ebd59c09f"), looks := true }, kinds := [], alts := [], laidByText := true, laidKinds := [.data, .data, .data, .data, .pinned], laidTests := true, laidLooks := .later }
def TopTracesReelsCardSaid : Prop := Claim7.holds Tryz.pinned (.plain (OpenSpec.ofChange topTracesReelsSpec)) topTracesReelsCard

/-- THE TIED CARD OF 'rfkeep2.SuspectStandsOut'. -/
def suspectStandsOutCard : Claim7 := { stood := { row := suspectStandsOutRow, standIns := [], harness := (true, "c6801d5525a0cfd807f67288657864e5c1044dc529f795648be00b6ebd59c09f"), looks := true }, kinds := [], alts := [], laidByText := true, laidKinds := [.data, .pinned], laidTests := true, laidLooks := .later }
def SuspectStandsOutCardSaid : Prop := Claim7.holds Tryz.pinned (.plain (OpenSpec.ofChange suspectStandsOutSpec)) suspectStandsOutCard

/-- THE TIED CARD OF 'rfkeep2.GroupsHoldAll'. -/
def groupsHoldAllCard : Claim7 := { stood := { row := groupsHoldAllRow, standIns := [], harness := (true, "c6801d5525a0cfd807f67288657864e5c1044dc529f795648be00b6ebd59c09f"), looks := true }, kinds := [], alts := [], laidByText := true, laidKinds := [.data, .pinned], laidTests := true, laidLooks := .later }
def GroupsHoldAllCardSaid : Prop := Claim7.holds Tryz.pinned (.plain (OpenSpec.ofChange groupsHoldAllSpec)) groupsHoldAllCard

/-- THE TIED CARD OF 'rfkeep2.PromisesHold'. -/
def promisesHoldCard : Claim7 := { stood := { row := promisesHoldRow, standIns := [], harness := (true, "c6801d5525a0cfd807f67288657864e5c1044dc529f795648be00b6ebd59c09f"), looks := true }, kinds := [], alts := [], laidByText := true, laidKinds := [.data, .pinned], laidTests := true, laidLooks := .later }
def PromisesHoldCardSaid : Prop := Claim7.holds Tryz.pinned (.plain (OpenSpec.ofChange promisesHoldSpec)) promisesHoldCard

/-- THE TIED CARD OF 'rflaw2.KitsCounted'. -/
def kitsCountedCard : Claim7 := { stood := { row := kitsCountedRow, standIns := [], harness := (true, "c6801d5525a0cfd807f67288657864e5c1044dc529f795648be00b6ebd59c09f"), looks := true }, kinds := [], alts := [], laidByText := true, laidKinds := [.data, .pinned], laidTests := true, laidLooks := .later }
def KitsCountedCardSaid : Prop := Claim7.holds Tryz.pinned (.plain (OpenSpec.ofChange kitsCountedSpec)) kitsCountedCard

/-- THE TIED CARD OF 'rflaw2.BoardsJudged'. -/
def boardsJudgedCard : Claim7 := { stood := { row := boardsJudgedRow, standIns := [], harness := (true, "c6801d5525a0cfd807f67288657864e5c1044dc529f795648be00b6ebd59c09f"), looks := true }, kinds := [], alts := [], laidByText := true, laidKinds := [.data, .data, .data, .data, .pinned], laidTests := true, laidLooks := .later }
def BoardsJudgedCardSaid : Prop := Claim7.holds Tryz.pinned (.plain (OpenSpec.ofChange boardsJudgedSpec)) boardsJudgedCard

/-- THE TIED CARD OF 'rfkeep2.PositionsAreRows'. -/
def positionsAreRowsCard : Claim7 := { stood := { row := positionsAreRowsRow, standIns := [], harness := (true, "c6801d5525a0cfd807f67288657864e5c1044dc529f795648be00b6ebd59c09f"), looks := true }, kinds := [], alts := [], laidByText := true, laidKinds := [.data, .data, .data, .data, .sentinel, .sentinel, .pinned], laidTests := true, laidLooks := .later }
def PositionsAreRowsCardSaid : Prop := Claim7.holds Tryz.pinned (.plain (OpenSpec.ofChange positionsAreRowsSpec)) positionsAreRowsCard

/-- THE TIED CARD OF 'rfkeep2.KitsAreCovered'. -/
def kitsAreCoveredCard : Claim7 := { stood := { row := kitsAreCoveredRow, standIns := [], harness := (true, "c6801d5525a0cfd807f67288657864e5c1044dc529f795648be00b6ebd59c09f"), looks := true }, kinds := [], alts := [], laidByText := true, laidKinds := [.data, .pinned], laidTests := true, laidLooks := .later }
def KitsAreCoveredCardSaid : Prop := Claim7.holds Tryz.pinned (.plain (OpenSpec.ofChange kitsAreCoveredSpec)) kitsAreCoveredCard

/-- THE SECOND FORM's CARD OF 'rflaw2.SchedulesFound'. -/
def schedulesFoundUptoCard : Claim7 := { stood := { row := schedulesFoundUptoRow, standIns := [], harness := (true, "c6801d5525a0cfd807f67288657864e5c1044dc529f795648be00b6ebd59c09f"), looks := true }, kinds := [], alts := [], laidByText := true, laidKinds := [.data, .pinned], laidTests := true, laidLooks := .later }
def SchedulesFoundUptoCardSaid : Prop := Claim7.holds Tryz.pinned (.plain (OpenSpec.upto schedulesFoundSpec)) schedulesFoundUptoCard

/-- THE SECOND FORM's CARD OF 'rflaw2.OrdersPromised'. -/
def ordersPromisedUptoCard : Claim7 := { stood := { row := ordersPromisedUptoRow, standIns := [], harness := (true, "c6801d5525a0cfd807f67288657864e5c1044dc529f795648be00b6ebd59c09f"), looks := true }, kinds := [], alts := [], laidByText := true, laidKinds := [.data, .pinned], laidTests := true, laidLooks := .later }
def OrdersPromisedUptoCardSaid : Prop := Claim7.holds Tryz.pinned (.plain (OpenSpec.upto ordersPromisedSpec)) ordersPromisedUptoCard

/-- THE SECOND FORM's CARD OF 'rflaw2.LooksCounted'. -/
def looksCountedUptoCard : Claim7 := { stood := { row := looksCountedUptoRow, standIns := [], harness := (true, "c6801d5525a0cfd807f67288657864e5c1044dc529f795648be00b6ebd59c09f"), looks := true }, kinds := [], alts := [], laidByText := true, laidKinds := [.data, .data, .data, .data, .pinned], laidTests := true, laidLooks := .later }
def LooksCountedUptoCardSaid : Prop := Claim7.holds Tryz.pinned (.plain (OpenSpec.upto looksCountedSpec)) looksCountedUptoCard

/-- THE SECOND FORM's CARD OF 'rflaw2.CausesFound'. -/
def causesFoundUptoCard : Claim7 := { stood := { row := causesFoundUptoRow, standIns := [], harness := (true, "c6801d5525a0cfd807f67288657864e5c1044dc529f795648be00b6ebd59c09f"), looks := true }, kinds := [], alts := [], laidByText := true, laidKinds := [.data, .data, .data, .data, .pinned], laidTests := true, laidLooks := .later }
def CausesFoundUptoCardSaid : Prop := Claim7.holds Tryz.pinned (.plain (OpenSpec.upto causesFoundSpec)) causesFoundUptoCard

/-- THE SECOND FORM's CARD OF 'rftop.TopTracesReels'. -/
def topTracesReelsUptoCard : Claim7 := { stood := { row := topTracesReelsUptoRow, standIns := [], harness := (true, "c6801d5525a0cfd807f67288657864e5c1044dc529f795648be00b6ebd59c09f"), looks := true }, kinds := [], alts := [], laidByText := true, laidKinds := [.data, .data, .data, .data, .pinned], laidTests := true, laidLooks := .later }
def TopTracesReelsUptoCardSaid : Prop := Claim7.holds Tryz.pinned (.plain (OpenSpec.upto topTracesReelsSpec)) topTracesReelsUptoCard

/-- THE SECOND FORM's CARD OF 'rfkeep2.SuspectStandsOut'. -/
def suspectStandsOutUptoCard : Claim7 := { stood := { row := suspectStandsOutUptoRow, standIns := [], harness := (true, "c6801d5525a0cfd807f67288657864e5c1044dc529f795648be00b6ebd59c09f"), looks := true }, kinds := [], alts := [], laidByText := true, laidKinds := [.data, .pinned], laidTests := true, laidLooks := .later }
def SuspectStandsOutUptoCardSaid : Prop := Claim7.holds Tryz.pinned (.plain (OpenSpec.upto suspectStandsOutSpec)) suspectStandsOutUptoCard

/-- THE SECOND FORM's CARD OF 'rfkeep2.GroupsHoldAll'. -/
def groupsHoldAllUptoCard : Claim7 := { stood := { row := groupsHoldAllUptoRow, standIns := [], harness := (true, "c6801d5525a0cfd807f67288657864e5c1044dc529f795648be00b6ebd59c09f"), looks := true }, kinds := [], alts := [], laidByText := true, laidKinds := [.data, .pinned], laidTests := true, laidLooks := .later }
def GroupsHoldAllUptoCardSaid : Prop := Claim7.holds Tryz.pinned (.plain (OpenSpec.upto groupsHoldAllSpec)) groupsHoldAllUptoCard

/-- THE SECOND FORM's CARD OF 'rfkeep2.PromisesHold'. -/
def promisesHoldUptoCard : Claim7 := { stood := { row := promisesHoldUptoRow, standIns := [], harness := (true, "c6801d5525a0cfd807f67288657864e5c1044dc529f795648be00b6ebd59c09f"), looks := true }, kinds := [], alts := [], laidByText := true, laidKinds := [.data, .pinned], laidTests := true, laidLooks := .later }
def PromisesHoldUptoCardSaid : Prop := Claim7.holds Tryz.pinned (.plain (OpenSpec.upto promisesHoldSpec)) promisesHoldUptoCard

/-- THE SECOND FORM's CARD OF 'rflaw2.KitsCounted'. -/
def kitsCountedUptoCard : Claim7 := { stood := { row := kitsCountedUptoRow, standIns := [], harness := (true, "c6801d5525a0cfd807f67288657864e5c1044dc529f795648be00b6ebd59c09f"), looks := true }, kinds := [], alts := [], laidByText := true, laidKinds := [.data, .pinned], laidTests := true, laidLooks := .later }
def KitsCountedUptoCardSaid : Prop := Claim7.holds Tryz.pinned (.plain (OpenSpec.upto kitsCountedSpec)) kitsCountedUptoCard

/-- THE SECOND FORM's CARD OF 'rflaw2.BoardsJudged'. -/
def boardsJudgedUptoCard : Claim7 := { stood := { row := boardsJudgedUptoRow, standIns := [], harness := (true, "c6801d5525a0cfd807f67288657864e5c1044dc529f795648be00b6ebd59c09f"), looks := true }, kinds := [], alts := [], laidByText := true, laidKinds := [.data, .data, .data, .data, .pinned], laidTests := true, laidLooks := .later }
def BoardsJudgedUptoCardSaid : Prop := Claim7.holds Tryz.pinned (.plain (OpenSpec.upto boardsJudgedSpec)) boardsJudgedUptoCard

/-- THE SECOND FORM's CARD OF 'rfkeep2.PositionsAreRows'. -/
def positionsAreRowsUptoCard : Claim7 := { stood := { row := positionsAreRowsUptoRow, standIns := [], harness := (true, "c6801d5525a0cfd807f67288657864e5c1044dc529f795648be00b6ebd59c09f"), looks := true }, kinds := [], alts := [], laidByText := true, laidKinds := [.data, .data, .data, .data, .sentinel, .sentinel, .pinned], laidTests := true, laidLooks := .later }
def PositionsAreRowsUptoCardSaid : Prop := Claim7.holds Tryz.pinned (.plain (OpenSpec.upto positionsAreRowsSpec)) positionsAreRowsUptoCard

/-- THE SECOND FORM's CARD OF 'rfkeep2.KitsAreCovered'. -/
def kitsAreCoveredUptoCard : Claim7 := { stood := { row := kitsAreCoveredUptoRow, standIns := [], harness := (true, "c6801d5525a0cfd807f67288657864e5c1044dc529f795648be00b6ebd59c09f"), looks := true }, kinds := [], alts := [], laidByText := true, laidKinds := [.data, .pinned], laidTests := true, laidLooks := .later }
def KitsAreCoveredUptoCardSaid : Prop := Claim7.holds Tryz.pinned (.plain (OpenSpec.upto kitsAreCoveredSpec)) kitsAreCoveredUptoCard
end Rows
end Go.Proofs.YtmahammdnmmmoaaGreatDoor
