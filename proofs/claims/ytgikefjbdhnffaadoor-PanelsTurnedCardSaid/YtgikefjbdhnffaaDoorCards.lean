/-
  DERIVED. GIVEN WITH THE SEED: THE CARDS: each row of YtgikefjbdhnffaaDoorRows.lean that lists a variable, with what it lists TIED to the program's text (the seventh form; the later family's looks); each row that meets fmt, with fmt's text TOLD by the authors' own Lean function (tested against real Go, not proved from fmt's source: count such statements apart). THE CARD IS WHAT COUNTS. Prove the row's statement (the work); the ties are given (YtgikefjbdhnffaaDoorTie.lean); close each card by the builder's one call (the guide's Derived/Test/ToyasCard.lean, 'card_holds'). Laid BY PROGRAM, IN A SANDBOX (cutbox-door.mjs). By AI agents, Wed Nov 11 2026. No macro, syntax, notation, axiom, sorry.
-/
import Derived.Test.YtgikefjbdhnffaaDoorRows
import GoSem.ClaimSeven
namespace Go.Proofs.YtgikefjbdhnffaaDoor
namespace Rows

/-- THE TIED CARD OF 'rflaw2.PointsCorrected'. -/
def pointsCorrectedCard : Claim7 := { stood := { row := pointsCorrectedRow, standIns := [], harness := (true, "11afadf62bc09d28c330faf63ad69aca5f58f66481f31d868c343d20ce6cdd9b"), looks := false }, kinds := [], alts := [], laidByText := true, laidKinds := [.data, .pinned], laidTests := true, laidLooks := .later }
def PointsCorrectedCardSaid : Prop := Claim7.holds Tryd.pinned (.plain (OpenSpec.ofChange pointsCorrectedSpec)) pointsCorrectedCard

/-- THE TIED CARD OF 'rflaw2.PanelsTurned'. -/
def panelsTurnedCard : Claim7 := { stood := { row := panelsTurnedRow, standIns := [], harness := (true, "11afadf62bc09d28c330faf63ad69aca5f58f66481f31d868c343d20ce6cdd9b"), looks := false }, kinds := [], alts := [], laidByText := true, laidKinds := [.data, .pinned], laidTests := true, laidLooks := .later }
def PanelsTurnedCardSaid : Prop := Claim7.holds Tryd.pinned (.plain (OpenSpec.ofChange panelsTurnedSpec)) panelsTurnedCard

/-- THE TIED CARD OF 'rflaw2.BodiesCompared'. -/
def bodiesComparedCard : Claim7 := { stood := { row := bodiesComparedRow, standIns := [], harness := (true, "11afadf62bc09d28c330faf63ad69aca5f58f66481f31d868c343d20ce6cdd9b"), looks := false }, kinds := [], alts := [], laidByText := true, laidKinds := [.data, .pinned], laidTests := true, laidLooks := .later }
def BodiesComparedCardSaid : Prop := Claim7.holds Tryd.pinned (.plain (OpenSpec.ofChange bodiesComparedSpec)) bodiesComparedCard

/-- THE SECOND FORM's CARD OF 'rflaw2.PointsCorrected'. -/
def pointsCorrectedUptoCard : Claim7 := { stood := { row := pointsCorrectedUptoRow, standIns := [], harness := (true, "11afadf62bc09d28c330faf63ad69aca5f58f66481f31d868c343d20ce6cdd9b"), looks := false }, kinds := [], alts := [], laidByText := true, laidKinds := [.data, .pinned], laidTests := true, laidLooks := .later }
def PointsCorrectedUptoCardSaid : Prop := Claim7.holds Tryd.pinned (.plain (OpenSpec.upto pointsCorrectedSpec)) pointsCorrectedUptoCard

/-- THE SECOND FORM's CARD OF 'rflaw2.PanelsTurned'. -/
def panelsTurnedUptoCard : Claim7 := { stood := { row := panelsTurnedUptoRow, standIns := [], harness := (true, "11afadf62bc09d28c330faf63ad69aca5f58f66481f31d868c343d20ce6cdd9b"), looks := false }, kinds := [], alts := [], laidByText := true, laidKinds := [.data, .pinned], laidTests := true, laidLooks := .later }
def PanelsTurnedUptoCardSaid : Prop := Claim7.holds Tryd.pinned (.plain (OpenSpec.upto panelsTurnedSpec)) panelsTurnedUptoCard

/-- THE SECOND FORM's CARD OF 'rflaw2.BodiesCompared'. -/
def bodiesComparedUptoCard : Claim7 := { stood := { row := bodiesComparedUptoRow, standIns := [], harness := (true, "11afadf62bc09d28c330faf63ad69aca5f58f66481f31d868c343d20ce6cdd9b"), looks := false }, kinds := [], alts := [], laidByText := true, laidKinds := [.data, .pinned], laidTests := true, laidLooks := .later }
def BodiesComparedUptoCardSaid : Prop := Claim7.holds Tryd.pinned (.plain (OpenSpec.upto bodiesComparedSpec)) bodiesComparedUptoCard
end Rows
end Go.Proofs.YtgikefjbdhnffaaDoor
