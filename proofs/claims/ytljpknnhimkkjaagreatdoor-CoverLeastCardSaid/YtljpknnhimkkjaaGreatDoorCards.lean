/-
  DERIVED. GIVEN WITH THE SEED: THE CARDS: each row of YtljpknnhimkkjaaGreatDoorRows.lean that lists a variable, with what it lists TIED to the program's text (the seventh form; the later family's looks); each row that meets fmt, with fmt's text TOLD by the authors' own Lean function (tested against real Go, not proved from fmt's source: count such statements apart). THE CARD IS WHAT COUNTS. Prove the row's statement (the work); the ties are given (YtljpknnhimkkjaaGreatDoorTie.lean); close each card by the builder's one call (the guide's Derived/Test/ToyasCard.lean, 'card_holds'). Laid BY PROGRAM, IN A SANDBOX (cutbox-door.mjs). By AI agents, Wed Nov 11 2026. No macro, syntax, notation, axiom, sorry.
-/
import Derived.Test.YtljpknnhimkkjaaGreatDoorRows
import GoSem.ClaimSeven
namespace Go.Proofs.YtljpknnhimkkjaaGreatDoor
namespace Rows

/-- THE TIED CARD OF 'cobletop.TopBarred'. -/
def topBarredCard : Claim7 := { stood := { row := topBarredRow, standIns := [], harness := (true, "6b6116e45b061fde9e9c90704d25de2a26de6b42859e1f5c8ff38d56e58a61da"), looks := false }, kinds := [], alts := [], laidByText := true, laidKinds := [.data], laidTests := true, laidLooks := .later }
def TopBarredCardSaid : Prop := Claim7.holds Tryz.pinned (.plain (OpenSpec.ofChange topBarredSpec)) topBarredCard

/-- THE TIED CARD OF 'cobletop.TopSilent'. -/
def topSilentCard : Claim7 := { stood := { row := topSilentRow, standIns := [], harness := (true, "6b6116e45b061fde9e9c90704d25de2a26de6b42859e1f5c8ff38d56e58a61da"), looks := false }, kinds := [], alts := [], laidByText := true, laidKinds := [.data], laidTests := true, laidLooks := .later }
def TopSilentCardSaid : Prop := Claim7.holds Tryz.pinned (.plain (OpenSpec.ofChange topSilentSpec)) topSilentCard

/-- THE TIED CARD OF 'coblelaw08.CoverWhole'. -/
def coverWholeCard : Claim7 := { stood := { row := coverWholeRow, standIns := [], harness := (true, "6b6116e45b061fde9e9c90704d25de2a26de6b42859e1f5c8ff38d56e58a61da"), looks := false }, kinds := [], alts := [], laidByText := true, laidKinds := [.data], laidTests := true, laidLooks := .later }
def CoverWholeCardSaid : Prop := Claim7.holds Tryz.pinned (.plain (OpenSpec.ofChange coverWholeSpec)) coverWholeCard

/-- THE TIED CARD OF 'coblelaw08.CoverMore'. -/
def coverMoreCard : Claim7 := { stood := { row := coverMoreRow, standIns := [], harness := (true, "6b6116e45b061fde9e9c90704d25de2a26de6b42859e1f5c8ff38d56e58a61da"), looks := false }, kinds := [], alts := [], laidByText := true, laidKinds := [.data], laidTests := true, laidLooks := .later }
def CoverMoreCardSaid : Prop := Claim7.holds Tryz.pinned (.plain (OpenSpec.ofChange coverMoreSpec)) coverMoreCard

/-- THE TIED CARD OF 'coblelaw08.CoverKeeps'. -/
def coverKeepsCard : Claim7 := { stood := { row := coverKeepsRow, standIns := [], harness := (true, "6b6116e45b061fde9e9c90704d25de2a26de6b42859e1f5c8ff38d56e58a61da"), looks := false }, kinds := [], alts := [], laidByText := true, laidKinds := [.data], laidTests := true, laidLooks := .later }
def CoverKeepsCardSaid : Prop := Claim7.holds Tryz.pinned (.plain (OpenSpec.ofChange coverKeepsSpec)) coverKeepsCard

/-- THE TIED CARD OF 'coblelaw08.CoverRotates'. -/
def coverRotatesCard : Claim7 := { stood := { row := coverRotatesRow, standIns := [], harness := (true, "6b6116e45b061fde9e9c90704d25de2a26de6b42859e1f5c8ff38d56e58a61da"), looks := false }, kinds := [], alts := [], laidByText := true, laidKinds := [.data], laidTests := true, laidLooks := .later }
def CoverRotatesCardSaid : Prop := Claim7.holds Tryz.pinned (.plain (OpenSpec.ofChange coverRotatesSpec)) coverRotatesCard

/-- THE TIED CARD OF 'coblelaw08.CoverTimes'. -/
def coverTimesCard : Claim7 := { stood := { row := coverTimesRow, standIns := [], harness := (true, "6b6116e45b061fde9e9c90704d25de2a26de6b42859e1f5c8ff38d56e58a61da"), looks := false }, kinds := [], alts := [], laidByText := true, laidKinds := [.data], laidTests := true, laidLooks := .later }
def CoverTimesCardSaid : Prop := Claim7.holds Tryz.pinned (.plain (OpenSpec.ofChange coverTimesSpec)) coverTimesCard

/-- THE TIED CARD OF 'coblelaw08.CoverArrives'. -/
def coverArrivesCard : Claim7 := { stood := { row := coverArrivesRow, standIns := [], harness := (true, "6b6116e45b061fde9e9c90704d25de2a26de6b42859e1f5c8ff38d56e58a61da"), looks := false }, kinds := [], alts := [], laidByText := true, laidKinds := [.data], laidTests := true, laidLooks := .later }
def CoverArrivesCardSaid : Prop := Claim7.holds Tryz.pinned (.plain (OpenSpec.ofChange coverArrivesSpec)) coverArrivesCard

/-- THE TIED CARD OF 'coblelaw08.CoverPrinted'. -/
def coverPrintedCard : Claim7 := { stood := { row := coverPrintedRow, standIns := [], harness := (true, "6b6116e45b061fde9e9c90704d25de2a26de6b42859e1f5c8ff38d56e58a61da"), looks := false }, kinds := [], alts := [], laidByText := true, laidKinds := [.data], laidTests := true, laidLooks := .later }
def CoverPrintedCardSaid : Prop := Claim7.holds Tryz.pinned (.plain (OpenSpec.ofChange coverPrintedSpec)) coverPrintedCard

/-- THE TIED CARD OF 'coblelaw08.CoverLeast'. -/
def coverLeastCard : Claim7 := { stood := { row := coverLeastRow, standIns := [], harness := (true, "6b6116e45b061fde9e9c90704d25de2a26de6b42859e1f5c8ff38d56e58a61da"), looks := false }, kinds := [], alts := [], laidByText := true, laidKinds := [.data], laidTests := true, laidLooks := .later }
def CoverLeastCardSaid : Prop := Claim7.holds Tryz.pinned (.plain (OpenSpec.ofChange coverLeastSpec)) coverLeastCard

/-- THE TIED CARD OF 'coblelaw08.CoverHours'. -/
def coverHoursCard : Claim7 := { stood := { row := coverHoursRow, standIns := [], harness := (true, "6b6116e45b061fde9e9c90704d25de2a26de6b42859e1f5c8ff38d56e58a61da"), looks := false }, kinds := [], alts := [], laidByText := true, laidKinds := [.data], laidTests := true, laidLooks := .later }
def CoverHoursCardSaid : Prop := Claim7.holds Tryz.pinned (.plain (OpenSpec.ofChange coverHoursSpec)) coverHoursCard

/-- THE TIED CARD OF 'cobletop.TopHelped'. -/
def topHelpedCard : Claim7 := { stood := { row := topHelpedRow, standIns := [], harness := (true, "6b6116e45b061fde9e9c90704d25de2a26de6b42859e1f5c8ff38d56e58a61da"), looks := false }, kinds := [], alts := [], laidByText := true, laidKinds := [.data], laidTests := true, laidLooks := .later }
def TopHelpedCardSaid : Prop := Claim7.holds Tryz.pinned (.plain (OpenSpec.ofChange topHelpedSpec)) topHelpedCard

/-- THE SECOND FORM's CARD OF 'cobletop.TopBarred'. -/
def topBarredUptoCard : Claim7 := { stood := { row := topBarredUptoRow, standIns := [], harness := (true, "6b6116e45b061fde9e9c90704d25de2a26de6b42859e1f5c8ff38d56e58a61da"), looks := false }, kinds := [], alts := [], laidByText := true, laidKinds := [.data], laidTests := true, laidLooks := .later }
def TopBarredUptoCardSaid : Prop := Claim7.holds Tryz.pinned (.plain (OpenSpec.upto topBarredSpec)) topBarredUptoCard

/-- THE SECOND FORM's CARD OF 'cobletop.TopSilent'. -/
def topSilentUptoCard : Claim7 := { stood := { row := topSilentUptoRow, standIns := [], harness := (true, "6b6116e45b061fde9e9c90704d25de2a26de6b42859e1f5c8ff38d56e58a61da"), looks := false }, kinds := [], alts := [], laidByText := true, laidKinds := [.data], laidTests := true, laidLooks := .later }
def TopSilentUptoCardSaid : Prop := Claim7.holds Tryz.pinned (.plain (OpenSpec.upto topSilentSpec)) topSilentUptoCard

/-- THE SECOND FORM's CARD OF 'coblelaw08.CoverWhole'. -/
def coverWholeUptoCard : Claim7 := { stood := { row := coverWholeUptoRow, standIns := [], harness := (true, "6b6116e45b061fde9e9c90704d25de2a26de6b42859e1f5c8ff38d56e58a61da"), looks := false }, kinds := [], alts := [], laidByText := true, laidKinds := [.data], laidTests := true, laidLooks := .later }
def CoverWholeUptoCardSaid : Prop := Claim7.holds Tryz.pinned (.plain (OpenSpec.upto coverWholeSpec)) coverWholeUptoCard

/-- THE SECOND FORM's CARD OF 'coblelaw08.CoverMore'. -/
def coverMoreUptoCard : Claim7 := { stood := { row := coverMoreUptoRow, standIns := [], harness := (true, "6b6116e45b061fde9e9c90704d25de2a26de6b42859e1f5c8ff38d56e58a61da"), looks := false }, kinds := [], alts := [], laidByText := true, laidKinds := [.data], laidTests := true, laidLooks := .later }
def CoverMoreUptoCardSaid : Prop := Claim7.holds Tryz.pinned (.plain (OpenSpec.upto coverMoreSpec)) coverMoreUptoCard

/-- THE SECOND FORM's CARD OF 'coblelaw08.CoverKeeps'. -/
def coverKeepsUptoCard : Claim7 := { stood := { row := coverKeepsUptoRow, standIns := [], harness := (true, "6b6116e45b061fde9e9c90704d25de2a26de6b42859e1f5c8ff38d56e58a61da"), looks := false }, kinds := [], alts := [], laidByText := true, laidKinds := [.data], laidTests := true, laidLooks := .later }
def CoverKeepsUptoCardSaid : Prop := Claim7.holds Tryz.pinned (.plain (OpenSpec.upto coverKeepsSpec)) coverKeepsUptoCard

/-- THE SECOND FORM's CARD OF 'coblelaw08.CoverRotates'. -/
def coverRotatesUptoCard : Claim7 := { stood := { row := coverRotatesUptoRow, standIns := [], harness := (true, "6b6116e45b061fde9e9c90704d25de2a26de6b42859e1f5c8ff38d56e58a61da"), looks := false }, kinds := [], alts := [], laidByText := true, laidKinds := [.data], laidTests := true, laidLooks := .later }
def CoverRotatesUptoCardSaid : Prop := Claim7.holds Tryz.pinned (.plain (OpenSpec.upto coverRotatesSpec)) coverRotatesUptoCard

/-- THE SECOND FORM's CARD OF 'coblelaw08.CoverTimes'. -/
def coverTimesUptoCard : Claim7 := { stood := { row := coverTimesUptoRow, standIns := [], harness := (true, "6b6116e45b061fde9e9c90704d25de2a26de6b42859e1f5c8ff38d56e58a61da"), looks := false }, kinds := [], alts := [], laidByText := true, laidKinds := [.data], laidTests := true, laidLooks := .later }
def CoverTimesUptoCardSaid : Prop := Claim7.holds Tryz.pinned (.plain (OpenSpec.upto coverTimesSpec)) coverTimesUptoCard

/-- THE SECOND FORM's CARD OF 'coblelaw08.CoverArrives'. -/
def coverArrivesUptoCard : Claim7 := { stood := { row := coverArrivesUptoRow, standIns := [], harness := (true, "6b6116e45b061fde9e9c90704d25de2a26de6b42859e1f5c8ff38d56e58a61da"), looks := false }, kinds := [], alts := [], laidByText := true, laidKinds := [.data], laidTests := true, laidLooks := .later }
def CoverArrivesUptoCardSaid : Prop := Claim7.holds Tryz.pinned (.plain (OpenSpec.upto coverArrivesSpec)) coverArrivesUptoCard

/-- THE SECOND FORM's CARD OF 'coblelaw08.CoverPrinted'. -/
def coverPrintedUptoCard : Claim7 := { stood := { row := coverPrintedUptoRow, standIns := [], harness := (true, "6b6116e45b061fde9e9c90704d25de2a26de6b42859e1f5c8ff38d56e58a61da"), looks := false }, kinds := [], alts := [], laidByText := true, laidKinds := [.data], laidTests := true, laidLooks := .later }
def CoverPrintedUptoCardSaid : Prop := Claim7.holds Tryz.pinned (.plain (OpenSpec.upto coverPrintedSpec)) coverPrintedUptoCard

/-- THE SECOND FORM's CARD OF 'coblelaw08.CoverLeast'. -/
def coverLeastUptoCard : Claim7 := { stood := { row := coverLeastUptoRow, standIns := [], harness := (true, "6b6116e45b061fde9e9c90704d25de2a26de6b42859e1f5c8ff38d56e58a61da"), looks := false }, kinds := [], alts := [], laidByText := true, laidKinds := [.data], laidTests := true, laidLooks := .later }
def CoverLeastUptoCardSaid : Prop := Claim7.holds Tryz.pinned (.plain (OpenSpec.upto coverLeastSpec)) coverLeastUptoCard

/-- THE SECOND FORM's CARD OF 'coblelaw08.CoverHours'. -/
def coverHoursUptoCard : Claim7 := { stood := { row := coverHoursUptoRow, standIns := [], harness := (true, "6b6116e45b061fde9e9c90704d25de2a26de6b42859e1f5c8ff38d56e58a61da"), looks := false }, kinds := [], alts := [], laidByText := true, laidKinds := [.data], laidTests := true, laidLooks := .later }
def CoverHoursUptoCardSaid : Prop := Claim7.holds Tryz.pinned (.plain (OpenSpec.upto coverHoursSpec)) coverHoursUptoCard

/-- THE SECOND FORM's CARD OF 'cobletop.TopHelped'. -/
def topHelpedUptoCard : Claim7 := { stood := { row := topHelpedUptoRow, standIns := [], harness := (true, "6b6116e45b061fde9e9c90704d25de2a26de6b42859e1f5c8ff38d56e58a61da"), looks := false }, kinds := [], alts := [], laidByText := true, laidKinds := [.data], laidTests := true, laidLooks := .later }
def TopHelpedUptoCardSaid : Prop := Claim7.holds Tryz.pinned (.plain (OpenSpec.upto topHelpedSpec)) topHelpedUptoCard
end Rows
end Go.Proofs.YtljpknnhimkkjaaGreatDoor
