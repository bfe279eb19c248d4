/-
  DERIVED. GIVEN WITH THE SEED: THE CARDS: each row of YtplphabekhaoaaaGreatDoorRows.lean that lists a variable, with what it lists TIED to the program's text (the seventh form; the later family's looks); each row that meets fmt, with fmt's text TOLD by the authors' own Lean function (tested against real Go, not proved from fmt's source: count such statements apart). THE CARD IS WHAT COUNTS. Prove the row's statement (the work); the ties are given (YtplphabekhaoaaaGreatDoorTie.lean); close each card by the builder's one call (the guide's Derived/Test/ToyasCard.lean, 'card_holds'). Laid BY PROGRAM, IN A SANDBOX (cutbox-door.mjs). By AI agents, Wed Nov 11 2026. No macro, syntax, notation, axiom, sorry.
-/
import Derived.Test.YtplphabekhaoaaaGreatDoorRows
import GoSem.ClaimSeven
namespace Go.Proofs.YtplphabekhaoaaaGreatDoor
namespace Rows

/-- THE TIED CARD OF 'rflaw2.SchedulesFound'. -/
def schedulesFoundCard : Claim7 := { stood := { row := schedulesFoundRow, standIns := [], harness := (true, "a0d4d3971b01cb18016f973150976024fecf64d9ae03e3e40e90296aebc7802b"), looks := false }, kinds := [], alts := [], laidByText := true, laidKinds := [.data, .pinned], laidTests := true, laidLooks := .later }
def SchedulesFoundCardSaid : Prop := Claim7.holds Tryz.pinned (.plain (OpenSpec.ofChange schedulesFoundSpec)) schedulesFoundCard

/-- THE TIED CARD OF 'rflaw2.SchedulesTimed'. -/
def schedulesTimedCard : Claim7 := { stood := { row := schedulesTimedRow, standIns := [], harness := (true, "a0d4d3971b01cb18016f973150976024fecf64d9ae03e3e40e90296aebc7802b"), looks := false }, kinds := [], alts := [], laidByText := true, laidKinds := [.data, .pinned], laidTests := true, laidLooks := .later }
def SchedulesTimedCardSaid : Prop := Claim7.holds Tryz.pinned (.plain (OpenSpec.ofChange schedulesTimedSpec)) schedulesTimedCard

/-- THE TIED CARD OF 'rflaw2.OrdersPromised'. -/
def ordersPromisedCard : Claim7 := { stood := { row := ordersPromisedRow, standIns := [], harness := (true, "a0d4d3971b01cb18016f973150976024fecf64d9ae03e3e40e90296aebc7802b"), looks := false }, kinds := [], alts := [], laidByText := true, laidKinds := [.data, .pinned], laidTests := true, laidLooks := .later }
def OrdersPromisedCardSaid : Prop := Claim7.holds Tryz.pinned (.plain (OpenSpec.ofChange ordersPromisedSpec)) ordersPromisedCard

/-- THE TIED CARD OF 'rfkeep2.BoardsLeaveInOrder'. -/
def boardsLeaveInOrderCard : Claim7 := { stood := { row := boardsLeaveInOrderRow, standIns := [], harness := (true, "a0d4d3971b01cb18016f973150976024fecf64d9ae03e3e40e90296aebc7802b"), looks := false }, kinds := [], alts := [], laidByText := true, laidKinds := [.data, .pinned], laidTests := true, laidLooks := .later }
def BoardsLeaveInOrderCardSaid : Prop := Claim7.holds Tryz.pinned (.plain (OpenSpec.ofChange boardsLeaveInOrderSpec)) boardsLeaveInOrderCard

/-- THE TIED CARD OF 'rftop.TopSetupsAreChangeovers'. -/
def topSetupsAreChangeoversCard : Claim7 := { stood := { row := topSetupsAreChangeoversRow, standIns := [], harness := (true, "a0d4d3971b01cb18016f973150976024fecf64d9ae03e3e40e90296aebc7802b"), looks := false }, kinds := [], alts := [], laidByText := true, laidKinds := [.data, .data, .data, .data, .pinned], laidTests := true, laidLooks := .later }
def TopSetupsAreChangeoversCardSaid : Prop := Claim7.holds Tryz.pinned (.plain (OpenSpec.ofChange topSetupsAreChangeoversSpec)) topSetupsAreChangeoversCard

/-- THE TIED CARD OF 'rfkeep2.EnoughIsEnough'. -/
def enoughIsEnoughCard : Claim7 := { stood := { row := enoughIsEnoughRow, standIns := [], harness := (true, "a0d4d3971b01cb18016f973150976024fecf64d9ae03e3e40e90296aebc7802b"), looks := false }, kinds := [], alts := [], laidByText := true, laidKinds := [.data, .pinned], laidTests := true, laidLooks := .later }
def EnoughIsEnoughCardSaid : Prop := Claim7.holds Tryz.pinned (.plain (OpenSpec.ofChange enoughIsEnoughSpec)) enoughIsEnoughCard

/-- THE TIED CARD OF 'rfkeep2.GroupsHoldAll'. -/
def groupsHoldAllCard : Claim7 := { stood := { row := groupsHoldAllRow, standIns := [], harness := (true, "a0d4d3971b01cb18016f973150976024fecf64d9ae03e3e40e90296aebc7802b"), looks := false }, kinds := [], alts := [], laidByText := true, laidKinds := [.data, .pinned], laidTests := true, laidLooks := .later }
def GroupsHoldAllCardSaid : Prop := Claim7.holds Tryz.pinned (.plain (OpenSpec.ofChange groupsHoldAllSpec)) groupsHoldAllCard

/-- THE TIED CARD OF 'rfkeep2.TotalsAreLeast'. -/
def totalsAreLeastCard : Claim7 := { stood := { row := totalsAreLeastRow, standIns := [], harness := (true, "a0d4d3971b01cb18016f973150976024fecf64d9ae03e3e40e90296aebc7802b"), looks := false }, kinds := [], alts := [], laidByText := true, laidKinds := [.data, .pinned], laidTests := true, laidLooks := .later }
def TotalsAreLeastCardSaid : Prop := Claim7.holds Tryz.pinned (.plain (OpenSpec.ofChange totalsAreLeastSpec)) totalsAreLeastCard

/-- THE TIED CARD OF 'rfkeep2.PromisesHold'. -/
def promisesHoldCard : Claim7 := { stood := { row := promisesHoldRow, standIns := [], harness := (true, "a0d4d3971b01cb18016f973150976024fecf64d9ae03e3e40e90296aebc7802b"), looks := false }, kinds := [], alts := [], laidByText := true, laidKinds := [.data, .pinned], laidTests := true, laidLooks := .later }
def PromisesHoldCardSaid : Prop := Claim7.holds Tryz.pinned (.plain (OpenSpec.ofChange promisesHoldSpec)) promisesHoldCard

/-- THE TIED CARD OF 'rfkeep2.NextHasAll'. -/
def nextHasAllCard : Claim7 := { stood := { row := nextHasAllRow, standIns := [], harness := (true, "a0d4d3971b01cb18016f973150976024fecf64d9ae03e3e40e90296aebc7802b"), looks := false }, kinds := [], alts := [], laidByText := true, laidKinds := [.data, .pinned], laidTests := true, laidLooks := .later }
def NextHasAllCardSaid : Prop := Claim7.holds Tryz.pinned (.plain (OpenSpec.ofChange nextHasAllSpec)) nextHasAllCard

/-- THE TIED CARD OF 'rfkeep2.SchedulesAreLeast'. -/
def schedulesAreLeastCard : Claim7 := { stood := { row := schedulesAreLeastRow, standIns := [], harness := (true, "a0d4d3971b01cb18016f973150976024fecf64d9ae03e3e40e90296aebc7802b"), looks := false }, kinds := [], alts := [], laidByText := true, laidKinds := [.data, .pinned], laidTests := true, laidLooks := .later }
def SchedulesAreLeastCardSaid : Prop := Claim7.holds Tryz.pinned (.plain (OpenSpec.ofChange schedulesAreLeastSpec)) schedulesAreLeastCard

/-- THE SECOND FORM's CARD OF 'rflaw2.SchedulesFound'. -/
def schedulesFoundUptoCard : Claim7 := { stood := { row := schedulesFoundUptoRow, standIns := [], harness := (true, "a0d4d3971b01cb18016f973150976024fecf64d9ae03e3e40e90296aebc7802b"), looks := false }, kinds := [], alts := [], laidByText := true, laidKinds := [.data, .pinned], laidTests := true, laidLooks := .later }
def SchedulesFoundUptoCardSaid : Prop := Claim7.holds Tryz.pinned (.plain (OpenSpec.upto schedulesFoundSpec)) schedulesFoundUptoCard

/-- THE SECOND FORM's CARD OF 'rflaw2.SchedulesTimed'. -/
def schedulesTimedUptoCard : Claim7 := { stood := { row := schedulesTimedUptoRow, standIns := [], harness := (true, "a0d4d3971b01cb18016f973150976024fecf64d9ae03e3e40e90296aebc7802b"), looks := false }, kinds := [], alts := [], laidByText := true, laidKinds := [.data, .pinned], laidTests := true, laidLooks := .later }
def SchedulesTimedUptoCardSaid : Prop := Claim7.holds Tryz.pinned (.plain (OpenSpec.upto schedulesTimedSpec)) schedulesTimedUptoCard

/-- THE SECOND FORM's CARD OF 'rflaw2.OrdersPromised'. -/
def ordersPromisedUptoCard : Claim7 := { stood := { row := ordersPromisedUptoRow, standIns := [], harness := (true, "a0d4d3971b01cb18016f973150976024fecf64d9ae03e3e40e90296aebc7802b"), looks := false }, kinds := [], alts := [], laidByText := true, laidKinds := [.data, .pinned], laidTests := true, laidLooks := .later }
def OrdersPromisedUptoCardSaid : Prop := Claim7.holds Tryz.pinned (.plain (OpenSpec.upto ordersPromisedSpec)) ordersPromisedUptoCard

/-- THE SECOND FORM's CARD OF 'rfkeep2.BoardsLeaveInOrder'. -/
def boardsLeaveInOrderUptoCard : Claim7 := { stood := { row := boardsLeaveInOrderUptoRow, standIns := [], harness := (true, "a0d4d3971b01cb18016f973150976024fecf64d9ae03e3e40e90296aebc7802b"), looks := false }, kinds := [], alts := [], laidByText := true, laidKinds := [.data, .pinned], laidTests := true, laidLooks := .later }
def BoardsLeaveInOrderUptoCardSaid : Prop := Claim7.holds Tryz.pinned (.plain (OpenSpec.upto boardsLeaveInOrderSpec)) boardsLeaveInOrderUptoCard

/-- THE SECOND FORM's CARD OF 'rftop.TopSetupsAreChangeovers'. -/
def topSetupsAreChangeoversUptoCard : Claim7 := { stood := { row := topSetupsAreChangeoversUptoRow, standIns := [], harness := (true, "a0d4d3971b01cb18016f973150976024fecf64d9ae03e3e40e90296aebc7802b"), looks := false }, kinds := [], alts := [], laidByText := true, laidKinds := [.data, .data, .data, .data, .pinned], laidTests := true, laidLooks := .later }
def TopSetupsAreChangeoversUptoCardSaid : Prop := Claim7.holds Tryz.pinned (.plain (OpenSpec.upto topSetupsAreChangeoversSpec)) topSetupsAreChangeoversUptoCard

/-- THE SECOND FORM's CARD OF 'rfkeep2.EnoughIsEnough'. -/
def enoughIsEnoughUptoCard : Claim7 := { stood := { row := enoughIsEnoughUptoRow, standIns := [], harness := (true, "a0d4d3971b01cb18016f973150976024fecf64d9ae03e3e40e90296aebc7802b"), looks := false }, kinds := [], alts := [], laidByText := true, laidKinds := [.data, .pinned], laidTests := true, laidLooks := .later }
def EnoughIsEnoughUptoCardSaid : Prop := Claim7.holds Tryz.pinned (.plain (OpenSpec.upto enoughIsEnoughSpec)) enoughIsEnoughUptoCard

/-- THE SECOND FORM's CARD OF 'rfkeep2.GroupsHoldAll'. -/
def groupsHoldAllUptoCard : Claim7 := { stood := { row := groupsHoldAllUptoRow, standIns := [], harness := (true, "a0d4d3971b01cb18016f973150976024fecf64d9ae03e3e40e90296aebc7802b"), looks := false }, kinds := [], alts := [], laidByText := true, laidKinds := [.data, .pinned], laidTests := true, laidLooks := .later }
def GroupsHoldAllUptoCardSaid : Prop := Claim7.holds Tryz.pinned (.plain (OpenSpec.upto groupsHoldAllSpec)) groupsHoldAllUptoCard

/-- THE SECOND FORM's CARD OF 'rfkeep2.TotalsAreLeast'. -/
def totalsAreLeastUptoCard : Claim7 := { stood := { row := totalsAreLeastUptoRow, standIns := [], harness := (true, "a0d4d3971b01cb18016f973150976024fecf64d9ae03e3e40e90296aebc7802b"), looks := false }, kinds := [], alts := [], laidByText := true, laidKinds := [.data, .pinned], laidTests := true, laidLooks := .later }
def TotalsAreLeastUptoCardSaid : Prop := Claim7.holds Tryz.pinned (.plain (OpenSpec.upto totalsAreLeastSpec)) totalsAreLeastUptoCard

/-- THE SECOND FORM's CARD OF 'rfkeep2.PromisesHold'. -/
def promisesHoldUptoCard : Claim7 := { stood := { row := promisesHoldUptoRow, standIns := [], harness := (true, "a0d4d3971b01cb18016f973150976024fecf64d9ae03e3e40e90296aebc7802b"), looks := false }, kinds := [], alts := [], laidByText := true, laidKinds := [.data, .pinned], laidTests := true, laidLooks := .later }
def PromisesHoldUptoCardSaid : Prop := Claim7.holds Tryz.pinned (.plain (OpenSpec.upto promisesHoldSpec)) promisesHoldUptoCard

/-- THE SECOND FORM's CARD OF 'rfkeep2.NextHasAll'. -/
def nextHasAllUptoCard : Claim7 := { stood := { row := nextHasAllUptoRow, standIns := [], harness := (true, "a0d4d3971b01cb18016f973150976024fecf64d9ae03e3e40e90296aebc7802b"), looks := false }, kinds := [], alts := [], laidByText := true, laidKinds := [.data, .pinned], laidTests := true, laidLooks := .later }
def NextHasAllUptoCardSaid : Prop := Claim7.holds Tryz.pinned (.plain (OpenSpec.upto nextHasAllSpec)) nextHasAllUptoCard

/-- THE SECOND FORM's CARD OF 'rfkeep2.SchedulesAreLeast'. -/
def schedulesAreLeastUptoCard : Claim7 := { stood := { row := schedulesAreLeastUptoRow, standIns := [], harness := (true, "a0d4d3971b01cb18016f973150976024fecf64d9ae03e3e40e90296aebc7802b"), looks := false }, kinds := [], alts := [], laidByText := true, laidKinds := [.data, .pinned], laidTests := true, laidLooks := .later }
def SchedulesAreLeastUptoCardSaid : Prop := Claim7.holds Tryz.pinned (.plain (OpenSpec.upto schedulesAreLeastSpec)) schedulesAreLeastUptoCard
end Rows
end Go.Proofs.YtplphabekhaoaaaGreatDoor
