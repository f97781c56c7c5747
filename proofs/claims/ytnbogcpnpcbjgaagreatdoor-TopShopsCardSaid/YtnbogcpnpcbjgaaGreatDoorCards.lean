/-
  DERIVED. GIVEN WITH THE SEED: THE CARDS: each row of YtnbogcpnpcbjgaaGreatDoorRows.lean that lists a variable, with what it lists TIED to the program's text (the seventh form; the later family's looks); each row that meets fmt, with fmt's text TOLD by the authors' own Lean function (tested against real Go, not proved from fmt's source: count such statements apart). THE CARD IS WHAT COUNTS. Prove the row's statement (the work); the ties are given (YtnbogcpnpcbjgaaGreatDoorTie.lean); close each card by the builder's one call (the guide's Derived/Test/ToyasCard.lean, 'card_holds'). Laid BY PROGRAM, IN A SANDBOX (cutbox-door.mjs). By AI agents, Wed Nov 11 2026. No macro, syntax, notation, axiom, sorry.
-/
import Derived.Test.YtnbogcpnpcbjgaaGreatDoorRows
import GoSem.ClaimSeven
namespace Go.Proofs.YtnbogcpnpcbjgaaGreatDoor
namespace Rows

/-- THE TIED CARD OF 'cobletop.TopSighted'. -/
def topSightedCard : Claim7 := { stood := { row := topSightedRow, standIns := [], harness := (true, "9d466f282b1d57ef774a382c43309fafe42ca79e3c0b539e77afaf4c9cff389d"), looks := false }, kinds := [], alts := [], laidByText := true, laidKinds := [.data, .data], laidTests := true, laidLooks := .later }
def TopSightedCardSaid : Prop := Claim7.holds Tryz.pinned (.plain (OpenSpec.ofChange topSightedSpec)) topSightedCard

/-- THE TIED CARD OF 'cobletop.TopPurse'. -/
def topPurseCard : Claim7 := { stood := { row := topPurseRow, standIns := [], harness := (true, "9d466f282b1d57ef774a382c43309fafe42ca79e3c0b539e77afaf4c9cff389d"), looks := false }, kinds := [], alts := [], laidByText := true, laidKinds := [.data], laidTests := true, laidLooks := .later }
def TopPurseCardSaid : Prop := Claim7.holds Tryz.pinned (.plain (OpenSpec.ofChange topPurseSpec)) topPurseCard

/-- THE TIED CARD OF 'cobletop.TopShops'. -/
def topShopsCard : Claim7 := { stood := { row := topShopsRow, standIns := [], harness := (true, "9d466f282b1d57ef774a382c43309fafe42ca79e3c0b539e77afaf4c9cff389d"), looks := false }, kinds := [], alts := [], laidByText := true, laidKinds := [.data, .data, .data], laidTests := true, laidLooks := .later }
def TopShopsCardSaid : Prop := Claim7.holds Tryz.pinned (.plain (OpenSpec.ofChange topShopsSpec)) topShopsCard

/-- THE SECOND FORM's CARD OF 'cobletop.TopSighted'. -/
def topSightedUptoCard : Claim7 := { stood := { row := topSightedUptoRow, standIns := [], harness := (true, "9d466f282b1d57ef774a382c43309fafe42ca79e3c0b539e77afaf4c9cff389d"), looks := false }, kinds := [], alts := [], laidByText := true, laidKinds := [.data, .data], laidTests := true, laidLooks := .later }
def TopSightedUptoCardSaid : Prop := Claim7.holds Tryz.pinned (.plain (OpenSpec.upto topSightedSpec)) topSightedUptoCard

/-- THE SECOND FORM's CARD OF 'cobletop.TopPurse'. -/
def topPurseUptoCard : Claim7 := { stood := { row := topPurseUptoRow, standIns := [], harness := (true, "9d466f282b1d57ef774a382c43309fafe42ca79e3c0b539e77afaf4c9cff389d"), looks := false }, kinds := [], alts := [], laidByText := true, laidKinds := [.data], laidTests := true, laidLooks := .later }
def TopPurseUptoCardSaid : Prop := Claim7.holds Tryz.pinned (.plain (OpenSpec.upto topPurseSpec)) topPurseUptoCard

/-- THE SECOND FORM's CARD OF 'cobletop.TopShops'. -/
def topShopsUptoCard : Claim7 := { stood := { row := topShopsUptoRow, standIns := [], harness := (true, "9d466f282b1d57ef774a382c43309fafe42ca79e3c0b539e77afaf4c9cff389d"), looks := false }, kinds := [], alts := [], laidByText := true, laidKinds := [.data, .data, .data], laidTests := true, laidLooks := .later }
def TopShopsUptoCardSaid : Prop := Claim7.holds Tryz.pinned (.plain (OpenSpec.upto topShopsSpec)) topShopsUptoCard
end Rows
end Go.Proofs.YtnbogcpnpcbjgaaGreatDoor
