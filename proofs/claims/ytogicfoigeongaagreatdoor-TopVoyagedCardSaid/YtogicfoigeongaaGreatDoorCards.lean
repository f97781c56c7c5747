/-
  DERIVED. GIVEN WITH THE SEED: THE CARDS: each row of YtogicfoigeongaaGreatDoorRows.lean that lists a variable, with what it lists TIED to the program's text (the seventh form; the later family's looks); each row that meets fmt, with fmt's text TOLD by the authors' own Lean function (tested against real Go, not proved from fmt's source: count such statements apart). THE CARD IS WHAT COUNTS. Prove the row's statement (the work); the ties are given (YtogicfoigeongaaGreatDoorTie.lean); close each card by the builder's one call (the guide's Derived/Test/ToyasCard.lean, 'card_holds'). Laid BY PROGRAM, IN A SANDBOX (cutbox-door.mjs). By AI agents, Wed Nov 11 2026. No macro, syntax, notation, axiom, sorry.
-/
import Derived.Test.YtogicfoigeongaaGreatDoorRows
import GoSem.ClaimSeven
namespace Go.Proofs.YtogicfoigeongaaGreatDoor
namespace Rows

/-- THE TIED CARD OF 'cobletop.TopReached'. -/
def topReachedCard : Claim7 := { stood := { row := topReachedRow, standIns := [], harness := (true, "a65ef16a7cb56ecdf4d7d38daec74853af1cc982abf713dbecc77b3e5819615d"), looks := false }, kinds := [], alts := [], laidByText := true, laidKinds := [.data], laidTests := true, laidLooks := .later }
def TopReachedCardSaid : Prop := Claim7.holds Tryz.pinned (.plain (OpenSpec.ofChange topReachedSpec)) topReachedCard

/-- THE TIED CARD OF 'cobletop.TopVoyaged'. -/
def topVoyagedCard : Claim7 := { stood := { row := topVoyagedRow, standIns := [], harness := (true, "a65ef16a7cb56ecdf4d7d38daec74853af1cc982abf713dbecc77b3e5819615d"), looks := false }, kinds := [], alts := [], laidByText := true, laidKinds := [.data], laidTests := true, laidLooks := .later }
def TopVoyagedCardSaid : Prop := Claim7.holds Tryz.pinned (.plain (OpenSpec.ofChange topVoyagedSpec)) topVoyagedCard

/-- THE SECOND FORM's CARD OF 'cobletop.TopReached'. -/
def topReachedUptoCard : Claim7 := { stood := { row := topReachedUptoRow, standIns := [], harness := (true, "a65ef16a7cb56ecdf4d7d38daec74853af1cc982abf713dbecc77b3e5819615d"), looks := false }, kinds := [], alts := [], laidByText := true, laidKinds := [.data], laidTests := true, laidLooks := .later }
def TopReachedUptoCardSaid : Prop := Claim7.holds Tryz.pinned (.plain (OpenSpec.upto topReachedSpec)) topReachedUptoCard

/-- THE SECOND FORM's CARD OF 'cobletop.TopVoyaged'. -/
def topVoyagedUptoCard : Claim7 := { stood := { row := topVoyagedUptoRow, standIns := [], harness := (true, "a65ef16a7cb56ecdf4d7d38daec74853af1cc982abf713dbecc77b3e5819615d"), looks := false }, kinds := [], alts := [], laidByText := true, laidKinds := [.data], laidTests := true, laidLooks := .later }
def TopVoyagedUptoCardSaid : Prop := Claim7.holds Tryz.pinned (.plain (OpenSpec.upto topVoyagedSpec)) topVoyagedUptoCard
end Rows
end Go.Proofs.YtogicfoigeongaaGreatDoor
