/-
  DERIVED. GIVEN WITH THE SEED: THE CARDS: each row of YtpajnlcikmhpdaaDoorRows.lean that lists a variable, with what it lists TIED to the program's text (the seventh form; the later family's looks); each row that meets fmt, with fmt's text TOLD by the authors' own Lean function (tested against real Go, not proved from fmt's source: count such statements apart). THE CARD IS WHAT COUNTS. Prove the row's statement (the work); the ties are given (YtpajnlcikmhpdaaDoorTie.lean); close each card by the builder's one call (the guide's Derived/Test/ToyasCard.lean, 'card_holds'). Laid BY PROGRAM, IN A SANDBOX (cutbox-door.mjs). By AI agents, Wed Nov 11 2026. No macro, syntax, notation, axiom, sorry.
-/
import Derived.Test.YtpajnlcikmhpdaaDoorRows
import GoSem.ClaimSeven
namespace Go.Proofs.YtpajnlcikmhpdaaDoor
namespace Rows

/-- THE TIED CARD OF 'rflaw2.SetupsCompared'. -/
def setupsComparedCard : Claim7 := { stood := { row := setupsComparedRow, standIns := [], harness := (true, "371dda601d50726698be2b87581c93b6b2cad9dab86b00b9dc18c5ab1ab4ea7a"), looks := false }, kinds := [], alts := [], laidByText := true, laidKinds := [.data, .pinned], laidTests := true, laidLooks := .later }
def SetupsComparedCardSaid : Prop := Claim7.holds Tryd.pinned (.plain (OpenSpec.ofChange setupsComparedSpec)) setupsComparedCard

/-- THE TIED CARD OF 'rflaw2.OrdersFound'. -/
def ordersFoundCard : Claim7 := { stood := { row := ordersFoundRow, standIns := [], harness := (true, "371dda601d50726698be2b87581c93b6b2cad9dab86b00b9dc18c5ab1ab4ea7a"), looks := false }, kinds := [], alts := [], laidByText := true, laidKinds := [.data, .pinned], laidTests := true, laidLooks := .later }
def OrdersFoundCardSaid : Prop := Claim7.holds Tryd.pinned (.plain (OpenSpec.ofChange ordersFoundSpec)) ordersFoundCard

/-- THE TIED CARD OF 'rflaw2.SetupsMade'. -/
def setupsMadeCard : Claim7 := { stood := { row := setupsMadeRow, standIns := [], harness := (true, "371dda601d50726698be2b87581c93b6b2cad9dab86b00b9dc18c5ab1ab4ea7a"), looks := false }, kinds := [], alts := [], laidByText := true, laidKinds := [.data, .pinned], laidTests := true, laidLooks := .later }
def SetupsMadeCardSaid : Prop := Claim7.holds Tryd.pinned (.plain (OpenSpec.ofChange setupsMadeSpec)) setupsMadeCard

/-- THE SECOND FORM's CARD OF 'rflaw2.SetupsCompared'. -/
def setupsComparedUptoCard : Claim7 := { stood := { row := setupsComparedUptoRow, standIns := [], harness := (true, "371dda601d50726698be2b87581c93b6b2cad9dab86b00b9dc18c5ab1ab4ea7a"), looks := false }, kinds := [], alts := [], laidByText := true, laidKinds := [.data, .pinned], laidTests := true, laidLooks := .later }
def SetupsComparedUptoCardSaid : Prop := Claim7.holds Tryd.pinned (.plain (OpenSpec.upto setupsComparedSpec)) setupsComparedUptoCard

/-- THE SECOND FORM's CARD OF 'rflaw2.OrdersFound'. -/
def ordersFoundUptoCard : Claim7 := { stood := { row := ordersFoundUptoRow, standIns := [], harness := (true, "371dda601d50726698be2b87581c93b6b2cad9dab86b00b9dc18c5ab1ab4ea7a"), looks := false }, kinds := [], alts := [], laidByText := true, laidKinds := [.data, .pinned], laidTests := true, laidLooks := .later }
def OrdersFoundUptoCardSaid : Prop := Claim7.holds Tryd.pinned (.plain (OpenSpec.upto ordersFoundSpec)) ordersFoundUptoCard

/-- THE SECOND FORM's CARD OF 'rflaw2.SetupsMade'. -/
def setupsMadeUptoCard : Claim7 := { stood := { row := setupsMadeUptoRow, standIns := [], harness := (true, "371dda601d50726698be2b87581c93b6b2cad9dab86b00b9dc18c5ab1ab4ea7a"), looks := false }, kinds := [], alts := [], laidByText := true, laidKinds := [.data, .pinned], laidTests := true, laidLooks := .later }
def SetupsMadeUptoCardSaid : Prop := Claim7.holds Tryd.pinned (.plain (OpenSpec.upto setupsMadeSpec)) setupsMadeUptoCard
end Rows
end Go.Proofs.YtpajnlcikmhpdaaDoor
