/-
  DERIVED. GIVEN WITH THE SEED: THE CARDS: each row of YtpmodggfogahhaaGreatDoorRows.lean that lists a variable, with what it lists TIED to the program's text (the seventh form; the later family's looks); each row that meets fmt, with fmt's text TOLD by the authors' own Lean function (tested against real Go, not proved from fmt's source: count such statements apart). THE CARD IS WHAT COUNTS. Prove the row's statement (the work); the ties are given (YtpmodggfogahhaaGreatDoorTie.lean); close each card by the builder's one call (the guide's Derived/Test/ToyasCard.lean, 'card_holds'). Laid BY PROGRAM, IN A SANDBOX (cutbox-door.mjs). By AI agents, Wed Nov 11 2026. No macro, syntax, notation, axiom, sorry.
-/
import Derived.Test.YtpmodggfogahhaaGreatDoorRows
import GoSem.ClaimSeven
namespace Go.Proofs.YtpmodggfogahhaaGreatDoor
namespace Rows

/-- THE TIED CARD OF 'cobletop.TopAground'. -/
def topAgroundCard : Claim7 := { stood := { row := topAgroundRow, standIns := [], harness := (true, "99ae0f7240efaddec0e263ada2a1a418d8b4ca4fc558ab6feadc1c1e0f0acd97"), looks := false }, kinds := [], alts := [], laidByText := true, laidKinds := [.data], laidTests := true, laidLooks := .later }
def TopAgroundCardSaid : Prop := Claim7.holds Tryz.pinned (.plain (OpenSpec.ofChange topAgroundSpec)) topAgroundCard

/-- THE TIED CARD OF 'cobletop.TopCarried'. -/
def topCarriedCard : Claim7 := { stood := { row := topCarriedRow, standIns := [], harness := (true, "99ae0f7240efaddec0e263ada2a1a418d8b4ca4fc558ab6feadc1c1e0f0acd97"), looks := false }, kinds := [], alts := [], laidByText := true, laidKinds := [.data], laidTests := true, laidLooks := .later }
def TopCarriedCardSaid : Prop := Claim7.holds Tryz.pinned (.plain (OpenSpec.ofChange topCarriedSpec)) topCarriedCard

/-- THE TIED CARD OF 'cobletop.TopLighter'. -/
def topLighterCard : Claim7 := { stood := { row := topLighterRow, standIns := [], harness := (true, "99ae0f7240efaddec0e263ada2a1a418d8b4ca4fc558ab6feadc1c1e0f0acd97"), looks := false }, kinds := [], alts := [], laidByText := true, laidKinds := [.data], laidTests := true, laidLooks := .later }
def TopLighterCardSaid : Prop := Claim7.holds Tryz.pinned (.plain (OpenSpec.ofChange topLighterSpec)) topLighterCard

/-- THE TIED CARD OF 'cobletop.TopHauled'. -/
def topHauledCard : Claim7 := { stood := { row := topHauledRow, standIns := [], harness := (true, "99ae0f7240efaddec0e263ada2a1a418d8b4ca4fc558ab6feadc1c1e0f0acd97"), looks := false }, kinds := [], alts := [], laidByText := true, laidKinds := [.data], laidTests := true, laidLooks := .later }
def TopHauledCardSaid : Prop := Claim7.holds Tryz.pinned (.plain (OpenSpec.ofChange topHauledSpec)) topHauledCard

/-- THE TIED CARD OF 'cobletop.TopDry'. -/
def topDryCard : Claim7 := { stood := { row := topDryRow, standIns := [], harness := (true, "99ae0f7240efaddec0e263ada2a1a418d8b4ca4fc558ab6feadc1c1e0f0acd97"), looks := false }, kinds := [], alts := [], laidByText := true, laidKinds := [.data], laidTests := true, laidLooks := .later }
def TopDryCardSaid : Prop := Claim7.holds Tryz.pinned (.plain (OpenSpec.ofChange topDrySpec)) topDryCard

/-- THE TIED CARD OF 'cobletop.TopBoarded'. -/
def topBoardedCard : Claim7 := { stood := { row := topBoardedRow, standIns := [], harness := (true, "99ae0f7240efaddec0e263ada2a1a418d8b4ca4fc558ab6feadc1c1e0f0acd97"), looks := false }, kinds := [], alts := [], laidByText := true, laidKinds := [.data], laidTests := true, laidLooks := .later }
def TopBoardedCardSaid : Prop := Claim7.holds Tryz.pinned (.plain (OpenSpec.ofChange topBoardedSpec)) topBoardedCard

/-- THE TIED CARD OF 'cobletop.TopTowed'. -/
def topTowedCard : Claim7 := { stood := { row := topTowedRow, standIns := [], harness := (true, "99ae0f7240efaddec0e263ada2a1a418d8b4ca4fc558ab6feadc1c1e0f0acd97"), looks := false }, kinds := [], alts := [], laidByText := true, laidKinds := [.data], laidTests := true, laidLooks := .later }
def TopTowedCardSaid : Prop := Claim7.holds Tryz.pinned (.plain (OpenSpec.ofChange topTowedSpec)) topTowedCard

/-- THE SECOND FORM's CARD OF 'cobletop.TopAground'. -/
def topAgroundUptoCard : Claim7 := { stood := { row := topAgroundUptoRow, standIns := [], harness := (true, "99ae0f7240efaddec0e263ada2a1a418d8b4ca4fc558ab6feadc1c1e0f0acd97"), looks := false }, kinds := [], alts := [], laidByText := true, laidKinds := [.data], laidTests := true, laidLooks := .later }
def TopAgroundUptoCardSaid : Prop := Claim7.holds Tryz.pinned (.plain (OpenSpec.upto topAgroundSpec)) topAgroundUptoCard

/-- THE SECOND FORM's CARD OF 'cobletop.TopCarried'. -/
def topCarriedUptoCard : Claim7 := { stood := { row := topCarriedUptoRow, standIns := [], harness := (true, "99ae0f7240efaddec0e263ada2a1a418d8b4ca4fc558ab6feadc1c1e0f0acd97"), looks := false }, kinds := [], alts := [], laidByText := true, laidKinds := [.data], laidTests := true, laidLooks := .later }
def TopCarriedUptoCardSaid : Prop := Claim7.holds Tryz.pinned (.plain (OpenSpec.upto topCarriedSpec)) topCarriedUptoCard

/-- THE SECOND FORM's CARD OF 'cobletop.TopLighter'. -/
def topLighterUptoCard : Claim7 := { stood := { row := topLighterUptoRow, standIns := [], harness := (true, "99ae0f7240efaddec0e263ada2a1a418d8b4ca4fc558ab6feadc1c1e0f0acd97"), looks := false }, kinds := [], alts := [], laidByText := true, laidKinds := [.data], laidTests := true, laidLooks := .later }
def TopLighterUptoCardSaid : Prop := Claim7.holds Tryz.pinned (.plain (OpenSpec.upto topLighterSpec)) topLighterUptoCard

/-- THE SECOND FORM's CARD OF 'cobletop.TopHauled'. -/
def topHauledUptoCard : Claim7 := { stood := { row := topHauledUptoRow, standIns := [], harness := (true, "99ae0f7240efaddec0e263ada2a1a418d8b4ca4fc558ab6feadc1c1e0f0acd97"), looks := false }, kinds := [], alts := [], laidByText := true, laidKinds := [.data], laidTests := true, laidLooks := .later }
def TopHauledUptoCardSaid : Prop := Claim7.holds Tryz.pinned (.plain (OpenSpec.upto topHauledSpec)) topHauledUptoCard

/-- THE SECOND FORM's CARD OF 'cobletop.TopDry'. -/
def topDryUptoCard : Claim7 := { stood := { row := topDryUptoRow, standIns := [], harness := (true, "99ae0f7240efaddec0e263ada2a1a418d8b4ca4fc558ab6feadc1c1e0f0acd97"), looks := false }, kinds := [], alts := [], laidByText := true, laidKinds := [.data], laidTests := true, laidLooks := .later }
def TopDryUptoCardSaid : Prop := Claim7.holds Tryz.pinned (.plain (OpenSpec.upto topDrySpec)) topDryUptoCard

/-- THE SECOND FORM's CARD OF 'cobletop.TopBoarded'. -/
def topBoardedUptoCard : Claim7 := { stood := { row := topBoardedUptoRow, standIns := [], harness := (true, "99ae0f7240efaddec0e263ada2a1a418d8b4ca4fc558ab6feadc1c1e0f0acd97"), looks := false }, kinds := [], alts := [], laidByText := true, laidKinds := [.data], laidTests := true, laidLooks := .later }
def TopBoardedUptoCardSaid : Prop := Claim7.holds Tryz.pinned (.plain (OpenSpec.upto topBoardedSpec)) topBoardedUptoCard

/-- THE SECOND FORM's CARD OF 'cobletop.TopTowed'. -/
def topTowedUptoCard : Claim7 := { stood := { row := topTowedUptoRow, standIns := [], harness := (true, "99ae0f7240efaddec0e263ada2a1a418d8b4ca4fc558ab6feadc1c1e0f0acd97"), looks := false }, kinds := [], alts := [], laidByText := true, laidKinds := [.data], laidTests := true, laidLooks := .later }
def TopTowedUptoCardSaid : Prop := Claim7.holds Tryz.pinned (.plain (OpenSpec.upto topTowedSpec)) topTowedUptoCard
end Rows
end Go.Proofs.YtpmodggfogahhaaGreatDoor
