/-
  DERIVED. GIVEN WITH THE SEED: THE CARDS: each row of YtcploodfholkkaaGreatDoorRows.lean that lists a variable, with what it lists TIED to the program's text (the seventh form; the later family's looks); each row that meets fmt, with fmt's text TOLD by the authors' own Lean function (tested against real Go, not proved from fmt's source: count such statements apart). THE CARD IS WHAT COUNTS. Prove the row's statement (the work); the ties are given (YtcploodfholkkaaGreatDoorTie.lean); close each card by the builder's one call (the guide's Derived/Test/ToyasCard.lean, 'card_holds'). Laid BY PROGRAM, IN A SANDBOX (cutbox-door.mjs). By AI agents, Wed Nov 11 2026. No macro, syntax, notation, axiom, sorry.
-/
import Derived.Test.YtcploodfholkkaaGreatDoorRows
import GoSem.ClaimSeven
namespace Go.Proofs.YtcploodfholkkaaGreatDoor
namespace Rows

/-- THE TIED CARD OF 'rfkeep2.PanelsStay'. -/
def panelsStayCard : Claim7 := { stood := { row := panelsStayRow, standIns := [], harness := (true, "df1db7eea8ef370b4d93ad1c90a3cfca2dac6e1180858c9a0ece12510e5c4516"), looks := true }, kinds := [], alts := [], laidByText := true, laidKinds := [.data, .pinned], laidTests := true, laidLooks := .later }
def PanelsStayCardSaid : Prop := Claim7.holds Tryz.pinned (.plain (OpenSpec.ofChange panelsStaySpec)) panelsStayCard

/-- THE TIED CARD OF 'rfkeep2.LinesStay'. -/
def linesStayCard : Claim7 := { stood := { row := linesStayRow, standIns := [], harness := (true, "df1db7eea8ef370b4d93ad1c90a3cfca2dac6e1180858c9a0ece12510e5c4516"), looks := true }, kinds := [], alts := [], laidByText := true, laidKinds := [.data, .pinned], laidTests := true, laidLooks := .later }
def LinesStayCardSaid : Prop := Claim7.holds Tryz.pinned (.plain (OpenSpec.ofChange linesStaySpec)) linesStayCard

/-- THE TIED CARD OF 'rfkeep2.PlansStay'. -/
def plansStayCard : Claim7 := { stood := { row := plansStayRow, standIns := [], harness := (true, "df1db7eea8ef370b4d93ad1c90a3cfca2dac6e1180858c9a0ece12510e5c4516"), looks := true }, kinds := [], alts := [], laidByText := true, laidKinds := [.data, .pinned], laidTests := true, laidLooks := .later }
def PlansStayCardSaid : Prop := Claim7.holds Tryz.pinned (.plain (OpenSpec.ofChange plansStaySpec)) plansStayCard

/-- THE TIED CARD OF 'rfkeep2.LooksStay'. -/
def looksStayCard : Claim7 := { stood := { row := looksStayRow, standIns := [], harness := (true, "df1db7eea8ef370b4d93ad1c90a3cfca2dac6e1180858c9a0ece12510e5c4516"), looks := true }, kinds := [], alts := [], laidByText := true, laidKinds := [.data, .data, .data, .data, .pinned], laidTests := true, laidLooks := .later }
def LooksStayCardSaid : Prop := Claim7.holds Tryz.pinned (.plain (OpenSpec.ofChange looksStaySpec)) looksStayCard

/-- THE TIED CARD OF 'rfkeep2.LooksAddUp'. -/
def looksAddUpCard : Claim7 := { stood := { row := looksAddUpRow, standIns := [], harness := (true, "df1db7eea8ef370b4d93ad1c90a3cfca2dac6e1180858c9a0ece12510e5c4516"), looks := true }, kinds := [], alts := [], laidByText := true, laidKinds := [.data, .data, .data, .data, .sentinel, .sentinel, .pinned], laidTests := true, laidLooks := .later }
def LooksAddUpCardSaid : Prop := Claim7.holds Tryz.pinned (.plain (OpenSpec.ofChange looksAddUpSpec)) looksAddUpCard

/-- THE SECOND FORM's CARD OF 'rfkeep2.PanelsStay'. -/
def panelsStayUptoCard : Claim7 := { stood := { row := panelsStayUptoRow, standIns := [], harness := (true, "df1db7eea8ef370b4d93ad1c90a3cfca2dac6e1180858c9a0ece12510e5c4516"), looks := true }, kinds := [], alts := [], laidByText := true, laidKinds := [.data, .pinned], laidTests := true, laidLooks := .later }
def PanelsStayUptoCardSaid : Prop := Claim7.holds Tryz.pinned (.plain (OpenSpec.upto panelsStaySpec)) panelsStayUptoCard

/-- THE SECOND FORM's CARD OF 'rfkeep2.LinesStay'. -/
def linesStayUptoCard : Claim7 := { stood := { row := linesStayUptoRow, standIns := [], harness := (true, "df1db7eea8ef370b4d93ad1c90a3cfca2dac6e1180858c9a0ece12510e5c4516"), looks := true }, kinds := [], alts := [], laidByText := true, laidKinds := [.data, .pinned], laidTests := true, laidLooks := .later }
def LinesStayUptoCardSaid : Prop := Claim7.holds Tryz.pinned (.plain (OpenSpec.upto linesStaySpec)) linesStayUptoCard

/-- THE SECOND FORM's CARD OF 'rfkeep2.PlansStay'. -/
def plansStayUptoCard : Claim7 := { stood := { row := plansStayUptoRow, standIns := [], harness := (true, "df1db7eea8ef370b4d93ad1c90a3cfca2dac6e1180858c9a0ece12510e5c4516"), looks := true }, kinds := [], alts := [], laidByText := true, laidKinds := [.data, .pinned], laidTests := true, laidLooks := .later }
def PlansStayUptoCardSaid : Prop := Claim7.holds Tryz.pinned (.plain (OpenSpec.upto plansStaySpec)) plansStayUptoCard

/-- THE SECOND FORM's CARD OF 'rfkeep2.LooksStay'. -/
def looksStayUptoCard : Claim7 := { stood := { row := looksStayUptoRow, standIns := [], harness := (true, "df1db7eea8ef370b4d93ad1c90a3cfca2dac6e1180858c9a0ece12510e5c4516"), looks := true }, kinds := [], alts := [], laidByText := true, laidKinds := [.data, .data, .data, .data, .pinned], laidTests := true, laidLooks := .later }
def LooksStayUptoCardSaid : Prop := Claim7.holds Tryz.pinned (.plain (OpenSpec.upto looksStaySpec)) looksStayUptoCard

/-- THE SECOND FORM's CARD OF 'rfkeep2.LooksAddUp'. -/
def looksAddUpUptoCard : Claim7 := { stood := { row := looksAddUpUptoRow, standIns := [], harness := (true, "df1db7eea8ef370b4d93ad1c90a3cfca2dac6e1180858c9a0ece12510e5c4516"), looks := true }, kinds := [], alts := [], laidByText := true, laidKinds := [.data, .data, .data, .data, .sentinel, .sentinel, .pinned], laidTests := true, laidLooks := .later }
def LooksAddUpUptoCardSaid : Prop := Claim7.holds Tryz.pinned (.plain (OpenSpec.upto looksAddUpSpec)) looksAddUpUptoCard
end Rows
end Go.Proofs.YtcploodfholkkaaGreatDoor
