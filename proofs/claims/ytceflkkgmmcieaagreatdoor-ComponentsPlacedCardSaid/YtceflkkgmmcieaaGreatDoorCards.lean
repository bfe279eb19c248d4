/-
  DERIVED. GIVEN WITH THE SEED: THE CARDS: each row of YtceflkkgmmcieaaGreatDoorRows.lean that lists a variable, with what it lists TIED to the program's text (the seventh form; the later family's looks); each row that meets fmt, with fmt's text TOLD by the authors' own Lean function (tested against real Go, not proved from fmt's source: count such statements apart). THE CARD IS WHAT COUNTS. Prove the row's statement (the work); the ties are given (YtceflkkgmmcieaaGreatDoorTie.lean); close each card by the builder's one call (the guide's Derived/Test/ToyasCard.lean, 'card_holds'). Laid BY PROGRAM, IN A SANDBOX (cutbox-door.mjs). By AI agents, Wed Nov 11 2026. No macro, syntax, notation, axiom, sorry.
-/
import Derived.Test.YtceflkkgmmcieaaGreatDoorRows
import GoSem.ClaimSeven
namespace Go.Proofs.YtceflkkgmmcieaaGreatDoor
namespace Rows

/-- THE TIED CARD OF 'rflaw2.ComponentsPlaced'. -/
def componentsPlacedCard : Claim7 := { stood := { row := componentsPlacedRow, standIns := [], harness := (true, "f443aac11701c1a5f43ff6a840480903bbf11135f5d45b8b867fc0e4ecb32a43"), looks := true }, kinds := [], alts := [], laidByText := true, laidKinds := [.data, .pinned], laidTests := true, laidLooks := .later }
def ComponentsPlacedCardSaid : Prop := Claim7.holds Tryz.pinned (.plain (OpenSpec.ofChange componentsPlacedSpec)) componentsPlacedCard

/-- THE TIED CARD OF 'rfkeep2.FiducialsFix'. -/
def fiducialsFixCard : Claim7 := { stood := { row := fiducialsFixRow, standIns := [], harness := (true, "f443aac11701c1a5f43ff6a840480903bbf11135f5d45b8b867fc0e4ecb32a43"), looks := true }, kinds := [], alts := [], laidByText := true, laidKinds := [.data, .pinned], laidTests := true, laidLooks := .later }
def FiducialsFixCardSaid : Prop := Claim7.holds Tryz.pinned (.plain (OpenSpec.ofChange fiducialsFixSpec)) fiducialsFixCard

/-- THE TIED CARD OF 'rfkeep2.CrowdedAreNear'. -/
def crowdedAreNearCard : Claim7 := { stood := { row := crowdedAreNearRow, standIns := [], harness := (true, "f443aac11701c1a5f43ff6a840480903bbf11135f5d45b8b867fc0e4ecb32a43"), looks := true }, kinds := [], alts := [], laidByText := true, laidKinds := [.data, .pinned], laidTests := true, laidLooks := .later }
def CrowdedAreNearCardSaid : Prop := Claim7.holds Tryz.pinned (.plain (OpenSpec.ofChange crowdedAreNearSpec)) crowdedAreNearCard

/-- THE TIED CARD OF 'rfkeep2.SpotsAreOnBoards'. -/
def spotsAreOnBoardsCard : Claim7 := { stood := { row := spotsAreOnBoardsRow, standIns := [], harness := (true, "f443aac11701c1a5f43ff6a840480903bbf11135f5d45b8b867fc0e4ecb32a43"), looks := true }, kinds := [], alts := [], laidByText := true, laidKinds := [.data, .pinned], laidTests := true, laidLooks := .later }
def SpotsAreOnBoardsCardSaid : Prop := Claim7.holds Tryz.pinned (.plain (OpenSpec.ofChange spotsAreOnBoardsSpec)) spotsAreOnBoardsCard

/-- THE TIED CARD OF 'rfkeep2.FourTurnsAreNone'. -/
def fourTurnsAreNoneCard : Claim7 := { stood := { row := fourTurnsAreNoneRow, standIns := [], harness := (true, "f443aac11701c1a5f43ff6a840480903bbf11135f5d45b8b867fc0e4ecb32a43"), looks := true }, kinds := [], alts := [], laidByText := true, laidKinds := [.data, .pinned], laidTests := true, laidLooks := .later }
def FourTurnsAreNoneCardSaid : Prop := Claim7.holds Tryz.pinned (.plain (OpenSpec.ofChange fourTurnsAreNoneSpec)) fourTurnsAreNoneCard

/-- THE TIED CARD OF 'rfkeep2.PanelsStay'. -/
def panelsStayCard : Claim7 := { stood := { row := panelsStayRow, standIns := [], harness := (true, "f443aac11701c1a5f43ff6a840480903bbf11135f5d45b8b867fc0e4ecb32a43"), looks := true }, kinds := [], alts := [], laidByText := true, laidKinds := [.data, .pinned], laidTests := true, laidLooks := .later }
def PanelsStayCardSaid : Prop := Claim7.holds Tryz.pinned (.plain (OpenSpec.ofChange panelsStaySpec)) panelsStayCard

/-- THE TIED CARD OF 'rflaw2.ProductTexts'. -/
def productTextsCard : Claim7 := { stood := { row := productTextsRow, standIns := [], harness := (true, "f443aac11701c1a5f43ff6a840480903bbf11135f5d45b8b867fc0e4ecb32a43"), looks := true }, kinds := [], alts := [], laidByText := true, laidKinds := [.data, .data, .data, .data, .sentinel, .sentinel, .pinned], laidTests := true, laidLooks := .later }
def ProductTextsCardSaid : Prop := Claim7.holds Tryz.pinned (.plain (OpenSpec.ofChange productTextsSpec)) productTextsCard

/-- THE TIED CARD OF 'rfkeep2.ProductsComeBack'. -/
def productsComeBackCard : Claim7 := { stood := { row := productsComeBackRow, standIns := [], harness := (true, "f443aac11701c1a5f43ff6a840480903bbf11135f5d45b8b867fc0e4ecb32a43"), looks := true }, kinds := [], alts := [], laidByText := true, laidKinds := [.data, .data, .data, .data, .sentinel, .sentinel, .pinned], laidTests := true, laidLooks := .later }
def ProductsComeBackCardSaid : Prop := Claim7.holds Tryz.pinned (.plain (OpenSpec.ofChange productsComeBackSpec)) productsComeBackCard

/-- THE SECOND FORM's CARD OF 'rflaw2.ComponentsPlaced'. -/
def componentsPlacedUptoCard : Claim7 := { stood := { row := componentsPlacedUptoRow, standIns := [], harness := (true, "f443aac11701c1a5f43ff6a840480903bbf11135f5d45b8b867fc0e4ecb32a43"), looks := true }, kinds := [], alts := [], laidByText := true, laidKinds := [.data, .pinned], laidTests := true, laidLooks := .later }
def ComponentsPlacedUptoCardSaid : Prop := Claim7.holds Tryz.pinned (.plain (OpenSpec.upto componentsPlacedSpec)) componentsPlacedUptoCard

/-- THE SECOND FORM's CARD OF 'rfkeep2.FiducialsFix'. -/
def fiducialsFixUptoCard : Claim7 := { stood := { row := fiducialsFixUptoRow, standIns := [], harness := (true, "f443aac11701c1a5f43ff6a840480903bbf11135f5d45b8b867fc0e4ecb32a43"), looks := true }, kinds := [], alts := [], laidByText := true, laidKinds := [.data, .pinned], laidTests := true, laidLooks := .later }
def FiducialsFixUptoCardSaid : Prop := Claim7.holds Tryz.pinned (.plain (OpenSpec.upto fiducialsFixSpec)) fiducialsFixUptoCard

/-- THE SECOND FORM's CARD OF 'rfkeep2.CrowdedAreNear'. -/
def crowdedAreNearUptoCard : Claim7 := { stood := { row := crowdedAreNearUptoRow, standIns := [], harness := (true, "f443aac11701c1a5f43ff6a840480903bbf11135f5d45b8b867fc0e4ecb32a43"), looks := true }, kinds := [], alts := [], laidByText := true, laidKinds := [.data, .pinned], laidTests := true, laidLooks := .later }
def CrowdedAreNearUptoCardSaid : Prop := Claim7.holds Tryz.pinned (.plain (OpenSpec.upto crowdedAreNearSpec)) crowdedAreNearUptoCard

/-- THE SECOND FORM's CARD OF 'rfkeep2.SpotsAreOnBoards'. -/
def spotsAreOnBoardsUptoCard : Claim7 := { stood := { row := spotsAreOnBoardsUptoRow, standIns := [], harness := (true, "f443aac11701c1a5f43ff6a840480903bbf11135f5d45b8b867fc0e4ecb32a43"), looks := true }, kinds := [], alts := [], laidByText := true, laidKinds := [.data, .pinned], laidTests := true, laidLooks := .later }
def SpotsAreOnBoardsUptoCardSaid : Prop := Claim7.holds Tryz.pinned (.plain (OpenSpec.upto spotsAreOnBoardsSpec)) spotsAreOnBoardsUptoCard

/-- THE SECOND FORM's CARD OF 'rfkeep2.FourTurnsAreNone'. -/
def fourTurnsAreNoneUptoCard : Claim7 := { stood := { row := fourTurnsAreNoneUptoRow, standIns := [], harness := (true, "f443aac11701c1a5f43ff6a840480903bbf11135f5d45b8b867fc0e4ecb32a43"), looks := true }, kinds := [], alts := [], laidByText := true, laidKinds := [.data, .pinned], laidTests := true, laidLooks := .later }
def FourTurnsAreNoneUptoCardSaid : Prop := Claim7.holds Tryz.pinned (.plain (OpenSpec.upto fourTurnsAreNoneSpec)) fourTurnsAreNoneUptoCard

/-- THE SECOND FORM's CARD OF 'rfkeep2.PanelsStay'. -/
def panelsStayUptoCard : Claim7 := { stood := { row := panelsStayUptoRow, standIns := [], harness := (true, "f443aac11701c1a5f43ff6a840480903bbf11135f5d45b8b867fc0e4ecb32a43"), looks := true }, kinds := [], alts := [], laidByText := true, laidKinds := [.data, .pinned], laidTests := true, laidLooks := .later }
def PanelsStayUptoCardSaid : Prop := Claim7.holds Tryz.pinned (.plain (OpenSpec.upto panelsStaySpec)) panelsStayUptoCard

/-- THE SECOND FORM's CARD OF 'rflaw2.ProductTexts'. -/
def productTextsUptoCard : Claim7 := { stood := { row := productTextsUptoRow, standIns := [], harness := (true, "f443aac11701c1a5f43ff6a840480903bbf11135f5d45b8b867fc0e4ecb32a43"), looks := true }, kinds := [], alts := [], laidByText := true, laidKinds := [.data, .data, .data, .data, .sentinel, .sentinel, .pinned], laidTests := true, laidLooks := .later }
def ProductTextsUptoCardSaid : Prop := Claim7.holds Tryz.pinned (.plain (OpenSpec.upto productTextsSpec)) productTextsUptoCard

/-- THE SECOND FORM's CARD OF 'rfkeep2.ProductsComeBack'. -/
def productsComeBackUptoCard : Claim7 := { stood := { row := productsComeBackUptoRow, standIns := [], harness := (true, "f443aac11701c1a5f43ff6a840480903bbf11135f5d45b8b867fc0e4ecb32a43"), looks := true }, kinds := [], alts := [], laidByText := true, laidKinds := [.data, .data, .data, .data, .sentinel, .sentinel, .pinned], laidTests := true, laidLooks := .later }
def ProductsComeBackUptoCardSaid : Prop := Claim7.holds Tryz.pinned (.plain (OpenSpec.upto productsComeBackSpec)) productsComeBackUptoCard
end Rows
end Go.Proofs.YtceflkkgmmcieaaGreatDoor
