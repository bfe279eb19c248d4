/-
  DERIVED. GIVEN WITH THE SEED: THE CARDS: each row of YtbbgjeiefmiblaaGreatDoorRows.lean that lists a variable, with what it lists TIED to the program's text (the seventh form; the later family's looks); each row that meets fmt, with fmt's text TOLD by the authors' own Lean function (tested against real Go, not proved from fmt's source: count such statements apart). THE CARD IS WHAT COUNTS. Prove the row's statement (the work); the ties are given (YtbbgjeiefmiblaaGreatDoorTie.lean); close each card by the builder's one call (the guide's Derived/Test/ToyasCard.lean, 'card_holds'). Laid BY PROGRAM, IN A SANDBOX (cutbox-door.mjs). By AI agents, Wed Nov 11 2026. No macro, syntax, notation, axiom, sorry.
-/
import Derived.Test.YtbbgjeiefmiblaaGreatDoorRows
import GoSem.ClaimSeven
namespace Go.Proofs.YtbbgjeiefmiblaaGreatDoor
namespace Rows

/-- THE TIED CARD OF 'rflaw2.ProductsGrouped'. -/
def productsGroupedCard : Claim7 := { stood := { row := productsGroupedRow, standIns := [], harness := (true, "ff4b3d7245a1baff61875e61e09d510e31ea1adeaf1cb41e7598a262f8bf1841"), looks := true }, kinds := [], alts := [], laidByText := true, laidKinds := [.data, .pinned], laidTests := true, laidLooks := .later }
def ProductsGroupedCardSaid : Prop := Claim7.holds Tryz.pinned (.plain (OpenSpec.ofChange productsGroupedSpec)) productsGroupedCard

/-- THE TIED CARD OF 'rfkeep2.SetupsStay'. -/
def setupsStayCard : Claim7 := { stood := { row := setupsStayRow, standIns := [], harness := (true, "ff4b3d7245a1baff61875e61e09d510e31ea1adeaf1cb41e7598a262f8bf1841"), looks := true }, kinds := [], alts := [], laidByText := true, laidKinds := [.data, .pinned], laidTests := true, laidLooks := .later }
def SetupsStayCardSaid : Prop := Claim7.holds Tryz.pinned (.plain (OpenSpec.ofChange setupsStaySpec)) setupsStayCard

/-- THE TIED CARD OF 'rflaw2.ProductTexts'. -/
def productTextsCard : Claim7 := { stood := { row := productTextsRow, standIns := [], harness := (true, "ff4b3d7245a1baff61875e61e09d510e31ea1adeaf1cb41e7598a262f8bf1841"), looks := true }, kinds := [], alts := [], laidByText := true, laidKinds := [.data, .data, .data, .data, .sentinel, .sentinel, .pinned], laidTests := true, laidLooks := .later }
def ProductTextsCardSaid : Prop := Claim7.holds Tryz.pinned (.plain (OpenSpec.ofChange productTextsSpec)) productTextsCard

/-- THE TIED CARD OF 'rfkeep2.ProductsComeBack'. -/
def productsComeBackCard : Claim7 := { stood := { row := productsComeBackRow, standIns := [], harness := (true, "ff4b3d7245a1baff61875e61e09d510e31ea1adeaf1cb41e7598a262f8bf1841"), looks := true }, kinds := [], alts := [], laidByText := true, laidKinds := [.data, .data, .data, .data, .sentinel, .sentinel, .pinned], laidTests := true, laidLooks := .later }
def ProductsComeBackCardSaid : Prop := Claim7.holds Tryz.pinned (.plain (OpenSpec.ofChange productsComeBackSpec)) productsComeBackCard

/-- THE SECOND FORM's CARD OF 'rflaw2.ProductsGrouped'. -/
def productsGroupedUptoCard : Claim7 := { stood := { row := productsGroupedUptoRow, standIns := [], harness := (true, "ff4b3d7245a1baff61875e61e09d510e31ea1adeaf1cb41e7598a262f8bf1841"), looks := true }, kinds := [], alts := [], laidByText := true, laidKinds := [.data, .pinned], laidTests := true, laidLooks := .later }
def ProductsGroupedUptoCardSaid : Prop := Claim7.holds Tryz.pinned (.plain (OpenSpec.upto productsGroupedSpec)) productsGroupedUptoCard

/-- THE SECOND FORM's CARD OF 'rfkeep2.SetupsStay'. -/
def setupsStayUptoCard : Claim7 := { stood := { row := setupsStayUptoRow, standIns := [], harness := (true, "ff4b3d7245a1baff61875e61e09d510e31ea1adeaf1cb41e7598a262f8bf1841"), looks := true }, kinds := [], alts := [], laidByText := true, laidKinds := [.data, .pinned], laidTests := true, laidLooks := .later }
def SetupsStayUptoCardSaid : Prop := Claim7.holds Tryz.pinned (.plain (OpenSpec.upto setupsStaySpec)) setupsStayUptoCard

/-- THE SECOND FORM's CARD OF 'rflaw2.ProductTexts'. -/
def productTextsUptoCard : Claim7 := { stood := { row := productTextsUptoRow, standIns := [], harness := (true, "ff4b3d7245a1baff61875e61e09d510e31ea1adeaf1cb41e7598a262f8bf1841"), looks := true }, kinds := [], alts := [], laidByText := true, laidKinds := [.data, .data, .data, .data, .sentinel, .sentinel, .pinned], laidTests := true, laidLooks := .later }
def ProductTextsUptoCardSaid : Prop := Claim7.holds Tryz.pinned (.plain (OpenSpec.upto productTextsSpec)) productTextsUptoCard

/-- THE SECOND FORM's CARD OF 'rfkeep2.ProductsComeBack'. -/
def productsComeBackUptoCard : Claim7 := { stood := { row := productsComeBackUptoRow, standIns := [], harness := (true, "ff4b3d7245a1baff61875e61e09d510e31ea1adeaf1cb41e7598a262f8bf1841"), looks := true }, kinds := [], alts := [], laidByText := true, laidKinds := [.data, .data, .data, .data, .sentinel, .sentinel, .pinned], laidTests := true, laidLooks := .later }
def ProductsComeBackUptoCardSaid : Prop := Claim7.holds Tryz.pinned (.plain (OpenSpec.upto productsComeBackSpec)) productsComeBackUptoCard
end Rows
end Go.Proofs.YtbbgjeiefmiblaaGreatDoor
