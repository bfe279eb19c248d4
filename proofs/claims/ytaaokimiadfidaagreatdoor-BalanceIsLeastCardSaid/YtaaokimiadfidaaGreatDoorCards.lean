/-
  DERIVED. GIVEN WITH THE SEED: THE CARDS: each row of YtaaokimiadfidaaGreatDoorRows.lean that lists a variable, with what it lists TIED to the program's text (the seventh form; the later family's looks); each row that meets fmt, with fmt's text TOLD by the authors' own Lean function (tested against real Go, not proved from fmt's source: count such statements apart). THE CARD IS WHAT COUNTS. Prove the row's statement (the work); the ties are given (YtaaokimiadfidaaGreatDoorTie.lean); close each card by the builder's one call (the guide's Derived/Test/ToyasCard.lean, 'card_holds'). Laid BY PROGRAM, IN A SANDBOX (cutbox-door.mjs). By AI agents, Wed Nov 11 2026. No macro, syntax, notation, axiom, sorry.
-/
import Derived.Test.YtaaokimiadfidaaGreatDoorRows
import GoSem.ClaimSeven
namespace Go.Proofs.YtaaokimiadfidaaGreatDoor
namespace Rows

/-- THE TIED CARD OF 'rflaw2.CausesFound'. -/
def causesFoundCard : Claim7 := { stood := { row := causesFoundRow, standIns := [], harness := (true, "ae72104ed62dc190d7d9a05ef75c22df5ca43512e8f137881cbb885b08e62664"), looks := true }, kinds := [], alts := [], laidByText := true, laidKinds := [.data, .data, .data, .data, .pinned], laidTests := true, laidLooks := .later }
def CausesFoundCardSaid : Prop := Claim7.holds Tryz.pinned (.plain (OpenSpec.ofChange causesFoundSpec)) causesFoundCard

/-- THE TIED CARD OF 'rfkeep2.GroupsHoldAll'. -/
def groupsHoldAllCard : Claim7 := { stood := { row := groupsHoldAllRow, standIns := [], harness := (true, "ae72104ed62dc190d7d9a05ef75c22df5ca43512e8f137881cbb885b08e62664"), looks := true }, kinds := [], alts := [], laidByText := true, laidKinds := [.data, .pinned], laidTests := true, laidLooks := .later }
def GroupsHoldAllCardSaid : Prop := Claim7.holds Tryz.pinned (.plain (OpenSpec.ofChange groupsHoldAllSpec)) groupsHoldAllCard

/-- THE TIED CARD OF 'rflaw2.KitsCounted'. -/
def kitsCountedCard : Claim7 := { stood := { row := kitsCountedRow, standIns := [], harness := (true, "ae72104ed62dc190d7d9a05ef75c22df5ca43512e8f137881cbb885b08e62664"), looks := true }, kinds := [], alts := [], laidByText := true, laidKinds := [.data, .pinned], laidTests := true, laidLooks := .later }
def KitsCountedCardSaid : Prop := Claim7.holds Tryz.pinned (.plain (OpenSpec.ofChange kitsCountedSpec)) kitsCountedCard

/-- THE TIED CARD OF 'rfkeep2.KitsAreCovered'. -/
def kitsAreCoveredCard : Claim7 := { stood := { row := kitsAreCoveredRow, standIns := [], harness := (true, "ae72104ed62dc190d7d9a05ef75c22df5ca43512e8f137881cbb885b08e62664"), looks := true }, kinds := [], alts := [], laidByText := true, laidKinds := [.data, .pinned], laidTests := true, laidLooks := .later }
def KitsAreCoveredCardSaid : Prop := Claim7.holds Tryz.pinned (.plain (OpenSpec.ofChange kitsAreCoveredSpec)) kitsAreCoveredCard

/-- THE TIED CARD OF 'rflaw2.LinesBalanced'. -/
def linesBalancedCard : Claim7 := { stood := { row := linesBalancedRow, standIns := [], harness := (true, "ae72104ed62dc190d7d9a05ef75c22df5ca43512e8f137881cbb885b08e62664"), looks := true }, kinds := [], alts := [], laidByText := true, laidKinds := [.data, .pinned], laidTests := true, laidLooks := .later }
def LinesBalancedCardSaid : Prop := Claim7.holds Tryz.pinned (.plain (OpenSpec.ofChange linesBalancedSpec)) linesBalancedCard

/-- THE TIED CARD OF 'rfkeep2.BalanceIsLeast'. -/
def balanceIsLeastCard : Claim7 := { stood := { row := balanceIsLeastRow, standIns := [], harness := (true, "ae72104ed62dc190d7d9a05ef75c22df5ca43512e8f137881cbb885b08e62664"), looks := true }, kinds := [], alts := [], laidByText := true, laidKinds := [.data, .pinned], laidTests := true, laidLooks := .later }
def BalanceIsLeastCardSaid : Prop := Claim7.holds Tryz.pinned (.plain (OpenSpec.ofChange balanceIsLeastSpec)) balanceIsLeastCard

/-- THE TIED CARD OF 'rftop.TopNeedsAreBalanced'. -/
def topNeedsAreBalancedCard : Claim7 := { stood := { row := topNeedsAreBalancedRow, standIns := [], harness := (true, "ae72104ed62dc190d7d9a05ef75c22df5ca43512e8f137881cbb885b08e62664"), looks := true }, kinds := [], alts := [], laidByText := true, laidKinds := [.data, .pinned], laidTests := true, laidLooks := .later }
def TopNeedsAreBalancedCardSaid : Prop := Claim7.holds Tryz.pinned (.plain (OpenSpec.ofChange topNeedsAreBalancedSpec)) topNeedsAreBalancedCard

/-- THE TIED CARD OF 'rftop.TopCyclesSetThePace'. -/
def topCyclesSetThePaceCard : Claim7 := { stood := { row := topCyclesSetThePaceRow, standIns := [], harness := (true, "ae72104ed62dc190d7d9a05ef75c22df5ca43512e8f137881cbb885b08e62664"), looks := true }, kinds := [], alts := [], laidByText := true, laidKinds := [.data, .pinned], laidTests := true, laidLooks := .later }
def TopCyclesSetThePaceCardSaid : Prop := Claim7.holds Tryz.pinned (.plain (OpenSpec.ofChange topCyclesSetThePaceSpec)) topCyclesSetThePaceCard

/-- THE TIED CARD OF 'rflaw2.BoardsJudged'. -/
def boardsJudgedCard : Claim7 := { stood := { row := boardsJudgedRow, standIns := [], harness := (true, "ae72104ed62dc190d7d9a05ef75c22df5ca43512e8f137881cbb885b08e62664"), looks := true }, kinds := [], alts := [], laidByText := true, laidKinds := [.data, .data, .data, .data, .pinned], laidTests := true, laidLooks := .later }
def BoardsJudgedCardSaid : Prop := Claim7.holds Tryz.pinned (.plain (OpenSpec.ofChange boardsJudgedSpec)) boardsJudgedCard

/-- THE TIED CARD OF 'rfkeep2.PositionsAreRows'. -/
def positionsAreRowsCard : Claim7 := { stood := { row := positionsAreRowsRow, standIns := [], harness := (true, "ae72104ed62dc190d7d9a05ef75c22df5ca43512e8f137881cbb885b08e62664"), looks := true }, kinds := [], alts := [], laidByText := true, laidKinds := [.data, .data, .data, .data, .sentinel, .sentinel, .pinned], laidTests := true, laidLooks := .later }
def PositionsAreRowsCardSaid : Prop := Claim7.holds Tryz.pinned (.plain (OpenSpec.ofChange positionsAreRowsSpec)) positionsAreRowsCard

/-- THE SECOND FORM's CARD OF 'rflaw2.CausesFound'. -/
def causesFoundUptoCard : Claim7 := { stood := { row := causesFoundUptoRow, standIns := [], harness := (true, "ae72104ed62dc190d7d9a05ef75c22df5ca43512e8f137881cbb885b08e62664"), looks := true }, kinds := [], alts := [], laidByText := true, laidKinds := [.data, .data, .data, .data, .pinned], laidTests := true, laidLooks := .later }
def CausesFoundUptoCardSaid : Prop := Claim7.holds Tryz.pinned (.plain (OpenSpec.upto causesFoundSpec)) causesFoundUptoCard

/-- THE SECOND FORM's CARD OF 'rfkeep2.GroupsHoldAll'. -/
def groupsHoldAllUptoCard : Claim7 := { stood := { row := groupsHoldAllUptoRow, standIns := [], harness := (true, "ae72104ed62dc190d7d9a05ef75c22df5ca43512e8f137881cbb885b08e62664"), looks := true }, kinds := [], alts := [], laidByText := true, laidKinds := [.data, .pinned], laidTests := true, laidLooks := .later }
def GroupsHoldAllUptoCardSaid : Prop := Claim7.holds Tryz.pinned (.plain (OpenSpec.upto groupsHoldAllSpec)) groupsHoldAllUptoCard

/-- THE SECOND FORM's CARD OF 'rflaw2.KitsCounted'. -/
def kitsCountedUptoCard : Claim7 := { stood := { row := kitsCountedUptoRow, standIns := [], harness := (true, "ae72104ed62dc190d7d9a05ef75c22df5ca43512e8f137881cbb885b08e62664"), looks := true }, kinds := [], alts := [], laidByText := true, laidKinds := [.data, .pinned], laidTests := true, laidLooks := .later }
def KitsCountedUptoCardSaid : Prop := Claim7.holds Tryz.pinned (.plain (OpenSpec.upto kitsCountedSpec)) kitsCountedUptoCard

/-- THE SECOND FORM's CARD OF 'rfkeep2.KitsAreCovered'. -/
def kitsAreCoveredUptoCard : Claim7 := { stood := { row := kitsAreCoveredUptoRow, standIns := [], harness := (true, "ae72104ed62dc190d7d9a05ef75c22df5ca43512e8f137881cbb885b08e62664"), looks := true }, kinds := [], alts := [], laidByText := true, laidKinds := [.data, .pinned], laidTests := true, laidLooks := .later }
def KitsAreCoveredUptoCardSaid : Prop := Claim7.holds Tryz.pinned (.plain (OpenSpec.upto kitsAreCoveredSpec)) kitsAreCoveredUptoCard

/-- THE SECOND FORM's CARD OF 'rflaw2.LinesBalanced'. -/
def linesBalancedUptoCard : Claim7 := { stood := { row := linesBalancedUptoRow, standIns := [], harness := (true, "ae72104ed62dc190d7d9a05ef75c22df5ca43512e8f137881cbb885b08e62664"), looks := true }, kinds := [], alts := [], laidByText := true, laidKinds := [.data, .pinned], laidTests := true, laidLooks := .later }
def LinesBalancedUptoCardSaid : Prop := Claim7.holds Tryz.pinned (.plain (OpenSpec.upto linesBalancedSpec)) linesBalancedUptoCard

/-- THE SECOND FORM's CARD OF 'rfkeep2.BalanceIsLeast'. -/
def balanceIsLeastUptoCard : Claim7 := { stood := { row := balanceIsLeastUptoRow, standIns := [], harness := (true, "ae72104ed62dc190d7d9a05ef75c22df5ca43512e8f137881cbb885b08e62664"), looks := true }, kinds := [], alts := [], laidByText := true, laidKinds := [.data, .pinned], laidTests := true, laidLooks := .later }
def BalanceIsLeastUptoCardSaid : Prop := Claim7.holds Tryz.pinned (.plain (OpenSpec.upto balanceIsLeastSpec)) balanceIsLeastUptoCard

/-- THE SECOND FORM's CARD OF 'rftop.TopNeedsAreBalanced'. -/
def topNeedsAreBalancedUptoCard : Claim7 := { stood := { row := topNeedsAreBalancedUptoRow, standIns := [], harness := (true, "ae72104ed62dc190d7d9a05ef75c22df5ca43512e8f137881cbb885b08e62664"), looks := true }, kinds := [], alts := [], laidByText := true, laidKinds := [.data, .pinned], laidTests := true, laidLooks := .later }
def TopNeedsAreBalancedUptoCardSaid : Prop := Claim7.holds Tryz.pinned (.plain (OpenSpec.upto topNeedsAreBalancedSpec)) topNeedsAreBalancedUptoCard

/-- THE SECOND FORM's CARD OF 'rftop.TopCyclesSetThePace'. -/
def topCyclesSetThePaceUptoCard : Claim7 := { stood := { row := topCyclesSetThePaceUptoRow, standIns := [], harness := (true, "ae72104ed62dc190d7d9a05ef75c22df5ca43512e8f137881cbb885b08e62664"), looks := true }, kinds := [], alts := [], laidByText := true, laidKinds := [.data, .pinned], laidTests := true, laidLooks := .later }
def TopCyclesSetThePaceUptoCardSaid : Prop := Claim7.holds Tryz.pinned (.plain (OpenSpec.upto topCyclesSetThePaceSpec)) topCyclesSetThePaceUptoCard

/-- THE SECOND FORM's CARD OF 'rflaw2.BoardsJudged'. -/
def boardsJudgedUptoCard : Claim7 := { stood := { row := boardsJudgedUptoRow, standIns := [], harness := (true, "ae72104ed62dc190d7d9a05ef75c22df5ca43512e8f137881cbb885b08e62664"), looks := true }, kinds := [], alts := [], laidByText := true, laidKinds := [.data, .data, .data, .data, .pinned], laidTests := true, laidLooks := .later }
def BoardsJudgedUptoCardSaid : Prop := Claim7.holds Tryz.pinned (.plain (OpenSpec.upto boardsJudgedSpec)) boardsJudgedUptoCard

/-- THE SECOND FORM's CARD OF 'rfkeep2.PositionsAreRows'. -/
def positionsAreRowsUptoCard : Claim7 := { stood := { row := positionsAreRowsUptoRow, standIns := [], harness := (true, "ae72104ed62dc190d7d9a05ef75c22df5ca43512e8f137881cbb885b08e62664"), looks := true }, kinds := [], alts := [], laidByText := true, laidKinds := [.data, .data, .data, .data, .sentinel, .sentinel, .pinned], laidTests := true, laidLooks := .later }
def PositionsAreRowsUptoCardSaid : Prop := Claim7.holds Tryz.pinned (.plain (OpenSpec.upto positionsAreRowsSpec)) positionsAreRowsUptoCard
end Rows
end Go.Proofs.YtaaokimiadfidaaGreatDoor
