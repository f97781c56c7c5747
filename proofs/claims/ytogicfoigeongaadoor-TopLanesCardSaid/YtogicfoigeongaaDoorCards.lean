/-
  DERIVED. GIVEN WITH THE SEED: THE CARDS: each row of YtogicfoigeongaaDoorRows.lean that lists a variable, with what it lists TIED to the program's text (the seventh form; the later family's looks); each row that meets fmt, with fmt's text TOLD by the authors' own Lean function (tested against real Go, not proved from fmt's source: count such statements apart). THE CARD IS WHAT COUNTS. Prove the row's statement (the work); the ties are given (YtogicfoigeongaaDoorTie.lean); close each card by the builder's one call (the guide's Derived/Test/ToyasCard.lean, 'card_holds'). Laid BY PROGRAM, IN A SANDBOX (cutbox-door.mjs). By AI agents, Wed Nov 11 2026. No macro, syntax, notation, axiom, sorry.
-/
import Derived.Test.YtogicfoigeongaaDoorRows
import GoSem.ClaimSeven
namespace Go.Proofs.YtogicfoigeongaaDoor
namespace Rows

/-- THE TIED CARD OF 'cobletop.TopLanes'. -/
def topLanesCard : Claim7 := { stood := { row := topLanesRow, standIns := [], harness := (true, "c5f5ae414fc971720d9e51aff22f8855885f67e608f29215b588913d2c5727da"), looks := false }, kinds := [], alts := [], laidByText := true, laidKinds := [.data], laidTests := true, laidLooks := .later }
def TopLanesCardSaid : Prop := Claim7.holds Tryd.pinned (.plain (OpenSpec.ofChange topLanesSpec)) topLanesCard

/-- THE TIED CARD OF 'cobletop.TopEmpty'. -/
def topEmptyCard : Claim7 := { stood := { row := topEmptyRow, standIns := [], harness := (true, "c5f5ae414fc971720d9e51aff22f8855885f67e608f29215b588913d2c5727da"), looks := false }, kinds := [], alts := [], laidByText := true, laidKinds := [.data], laidTests := true, laidLooks := .later }
def TopEmptyCardSaid : Prop := Claim7.holds Tryd.pinned (.plain (OpenSpec.ofChange topEmptySpec)) topEmptyCard

/-- THE SECOND FORM's CARD OF 'cobletop.TopLanes'. -/
def topLanesUptoCard : Claim7 := { stood := { row := topLanesUptoRow, standIns := [], harness := (true, "c5f5ae414fc971720d9e51aff22f8855885f67e608f29215b588913d2c5727da"), looks := false }, kinds := [], alts := [], laidByText := true, laidKinds := [.data], laidTests := true, laidLooks := .later }
def TopLanesUptoCardSaid : Prop := Claim7.holds Tryd.pinned (.plain (OpenSpec.upto topLanesSpec)) topLanesUptoCard

/-- THE SECOND FORM's CARD OF 'cobletop.TopEmpty'. -/
def topEmptyUptoCard : Claim7 := { stood := { row := topEmptyUptoRow, standIns := [], harness := (true, "c5f5ae414fc971720d9e51aff22f8855885f67e608f29215b588913d2c5727da"), looks := false }, kinds := [], alts := [], laidByText := true, laidKinds := [.data], laidTests := true, laidLooks := .later }
def TopEmptyUptoCardSaid : Prop := Claim7.holds Tryd.pinned (.plain (OpenSpec.upto topEmptySpec)) topEmptyUptoCard
end Rows
end Go.Proofs.YtogicfoigeongaaDoor
