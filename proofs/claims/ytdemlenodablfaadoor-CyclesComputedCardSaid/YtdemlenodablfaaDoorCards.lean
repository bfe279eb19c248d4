/-
  DERIVED. GIVEN WITH THE SEED: THE CARDS: each row of YtdemlenodablfaaDoorRows.lean that lists a variable, with what it lists TIED to the program's text (the seventh form; the later family's looks); each row that meets fmt, with fmt's text TOLD by the authors' own Lean function (tested against real Go, not proved from fmt's source: count such statements apart). THE CARD IS WHAT COUNTS. Prove the row's statement (the work); the ties are given (YtdemlenodablfaaDoorTie.lean); close each card by the builder's one call (the guide's Derived/Test/ToyasCard.lean, 'card_holds'). Laid BY PROGRAM, IN A SANDBOX (cutbox-door.mjs). By AI agents, Wed Nov 11 2026. No macro, syntax, notation, axiom, sorry.
-/
import Derived.Test.YtdemlenodablfaaDoorRows
import GoSem.ClaimSeven
namespace Go.Proofs.YtdemlenodablfaaDoor
namespace Rows

/-- THE TIED CARD OF 'rflaw2.CyclesComputed'. -/
def cyclesComputedCard : Claim7 := { stood := { row := cyclesComputedRow, standIns := [], harness := (true, "aa7a535df8244cb6c207ff61e0edd41d6b219d2e7583828fb1048f50aeda42b0"), looks := false }, kinds := [], alts := [], laidByText := true, laidKinds := [.data, .pinned], laidTests := true, laidLooks := .later }
def CyclesComputedCardSaid : Prop := Claim7.holds Tryd.pinned (.plain (OpenSpec.ofChange cyclesComputedSpec)) cyclesComputedCard

/-- THE SECOND FORM's CARD OF 'rflaw2.CyclesComputed'. -/
def cyclesComputedUptoCard : Claim7 := { stood := { row := cyclesComputedUptoRow, standIns := [], harness := (true, "aa7a535df8244cb6c207ff61e0edd41d6b219d2e7583828fb1048f50aeda42b0"), looks := false }, kinds := [], alts := [], laidByText := true, laidKinds := [.data, .pinned], laidTests := true, laidLooks := .later }
def CyclesComputedUptoCardSaid : Prop := Claim7.holds Tryd.pinned (.plain (OpenSpec.upto cyclesComputedSpec)) cyclesComputedUptoCard
end Rows
end Go.Proofs.YtdemlenodablfaaDoor
