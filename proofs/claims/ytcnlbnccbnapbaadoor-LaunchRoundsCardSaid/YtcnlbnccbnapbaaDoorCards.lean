/-
  DERIVED. GIVEN WITH THE SEED: THE CARDS: each row of YtcnlbnccbnapbaaDoorRows.lean that lists a variable, with what it lists TIED to the program's text (the seventh form; the later family's looks); each row that meets fmt, with fmt's text TOLD by the authors' own Lean function (tested against real Go, not proved from fmt's source: count such statements apart). THE CARD IS WHAT COUNTS. Prove the row's statement (the work); the ties are given (YtcnlbnccbnapbaaDoorTie.lean); close each card by the builder's one call (the guide's Derived/Test/ToyasCard.lean, 'card_holds'). Laid BY PROGRAM, IN A SANDBOX (cutbox-door.mjs). By AI agents, Wed Nov 11 2026. No macro, syntax, notation, axiom, sorry.
-/
import Derived.Test.YtcnlbnccbnapbaaDoorRows
import GoSem.ClaimSeven
namespace Go.Proofs.YtcnlbnccbnapbaaDoor
namespace Rows

/-- THE TIED CARD OF 'coblelaw05.LaunchDecides'. -/
def launchDecidesCard : Claim7 := { stood := { row := launchDecidesRow, standIns := [], harness := (true, "c072b0c5c500bbffbb3b1b4f9dd1c4797ea0c199d3bc216f5275e92ce92149e7"), looks := false }, kinds := [], alts := [], laidByText := true, laidKinds := [.data], laidTests := true, laidLooks := .later }
def LaunchDecidesCardSaid : Prop := Claim7.holds Tryd.pinned (.plain (OpenSpec.ofChange launchDecidesSpec)) launchDecidesCard

/-- THE TIED CARD OF 'coblelaw05.LaunchRounds'. -/
def launchRoundsCard : Claim7 := { stood := { row := launchRoundsRow, standIns := [], harness := (true, "c072b0c5c500bbffbb3b1b4f9dd1c4797ea0c199d3bc216f5275e92ce92149e7"), looks := false }, kinds := [], alts := [], laidByText := true, laidKinds := [.data], laidTests := true, laidLooks := .later }
def LaunchRoundsCardSaid : Prop := Claim7.holds Tryd.pinned (.plain (OpenSpec.ofChange launchRoundsSpec)) launchRoundsCard

/-- THE TIED CARD OF 'coblelaw05.LaunchComes'. -/
def launchComesCard : Claim7 := { stood := { row := launchComesRow, standIns := [], harness := (true, "c072b0c5c500bbffbb3b1b4f9dd1c4797ea0c199d3bc216f5275e92ce92149e7"), looks := false }, kinds := [], alts := [], laidByText := true, laidKinds := [.data], laidTests := true, laidLooks := .later }
def LaunchComesCardSaid : Prop := Claim7.holds Tryd.pinned (.plain (OpenSpec.ofChange launchComesSpec)) launchComesCard

/-- THE TIED CARD OF 'coblelaw05.LaunchCheapest'. -/
def launchCheapestCard : Claim7 := { stood := { row := launchCheapestRow, standIns := [], harness := (true, "c072b0c5c500bbffbb3b1b4f9dd1c4797ea0c199d3bc216f5275e92ce92149e7"), looks := false }, kinds := [], alts := [], laidByText := true, laidKinds := [.data], laidTests := true, laidLooks := .later }
def LaunchCheapestCardSaid : Prop := Claim7.holds Tryd.pinned (.plain (OpenSpec.ofChange launchCheapestSpec)) launchCheapestCard

/-- THE TIED CARD OF 'coblelaw05.LaunchEasier'. -/
def launchEasierCard : Claim7 := { stood := { row := launchEasierRow, standIns := [], harness := (true, "c072b0c5c500bbffbb3b1b4f9dd1c4797ea0c199d3bc216f5275e92ce92149e7"), looks := false }, kinds := [], alts := [], laidByText := true, laidKinds := [.data], laidTests := true, laidLooks := .later }
def LaunchEasierCardSaid : Prop := Claim7.holds Tryd.pinned (.plain (OpenSpec.ofChange launchEasierSpec)) launchEasierCard

/-- THE TIED CARD OF 'coblelaw05.LaunchOpens'. -/
def launchOpensCard : Claim7 := { stood := { row := launchOpensRow, standIns := [], harness := (true, "c072b0c5c500bbffbb3b1b4f9dd1c4797ea0c199d3bc216f5275e92ce92149e7"), looks := false }, kinds := [], alts := [], laidByText := true, laidKinds := [.data], laidTests := true, laidLooks := .later }
def LaunchOpensCardSaid : Prop := Claim7.holds Tryd.pinned (.plain (OpenSpec.ofChange launchOpensSpec)) launchOpensCard

/-- THE TIED CARD OF 'coblelaw05.LaunchBoards'. -/
def launchBoardsCard : Claim7 := { stood := { row := launchBoardsRow, standIns := [], harness := (true, "c072b0c5c500bbffbb3b1b4f9dd1c4797ea0c199d3bc216f5275e92ce92149e7"), looks := false }, kinds := [], alts := [], laidByText := true, laidKinds := [.data], laidTests := true, laidLooks := .later }
def LaunchBoardsCardSaid : Prop := Claim7.holds Tryd.pinned (.plain (OpenSpec.ofChange launchBoardsSpec)) launchBoardsCard

/-- THE TIED CARD OF 'coblelaw05.LaunchSeats'. -/
def launchSeatsCard : Claim7 := { stood := { row := launchSeatsRow, standIns := [], harness := (true, "c072b0c5c500bbffbb3b1b4f9dd1c4797ea0c199d3bc216f5275e92ce92149e7"), looks := false }, kinds := [], alts := [], laidByText := true, laidKinds := [.data], laidTests := true, laidLooks := .later }
def LaunchSeatsCardSaid : Prop := Claim7.holds Tryd.pinned (.plain (OpenSpec.ofChange launchSeatsSpec)) launchSeatsCard

/-- THE TIED CARD OF 'coblelaw05.LaunchRights'. -/
def launchRightsCard : Claim7 := { stood := { row := launchRightsRow, standIns := [], harness := (true, "c072b0c5c500bbffbb3b1b4f9dd1c4797ea0c199d3bc216f5275e92ce92149e7"), looks := false }, kinds := [], alts := [], laidByText := true, laidKinds := [.data], laidTests := true, laidLooks := .later }
def LaunchRightsCardSaid : Prop := Claim7.holds Tryd.pinned (.plain (OpenSpec.ofChange launchRightsSpec)) launchRightsCard

/-- THE TIED CARD OF 'coblelaw05.LaunchUpright'. -/
def launchUprightCard : Claim7 := { stood := { row := launchUprightRow, standIns := [], harness := (true, "c072b0c5c500bbffbb3b1b4f9dd1c4797ea0c199d3bc216f5275e92ce92149e7"), looks := false }, kinds := [], alts := [], laidByText := true, laidKinds := [.data], laidTests := true, laidLooks := .later }
def LaunchUprightCardSaid : Prop := Claim7.holds Tryd.pinned (.plain (OpenSpec.ofChange launchUprightSpec)) launchUprightCard

/-- THE TIED CARD OF 'coblelaw05.LaunchReaches'. -/
def launchReachesCard : Claim7 := { stood := { row := launchReachesRow, standIns := [], harness := (true, "c072b0c5c500bbffbb3b1b4f9dd1c4797ea0c199d3bc216f5275e92ce92149e7"), looks := false }, kinds := [], alts := [], laidByText := true, laidKinds := [.data], laidTests := true, laidLooks := .later }
def LaunchReachesCardSaid : Prop := Claim7.holds Tryd.pinned (.plain (OpenSpec.ofChange launchReachesSpec)) launchReachesCard

/-- THE SECOND FORM's CARD OF 'coblelaw05.LaunchDecides'. -/
def launchDecidesUptoCard : Claim7 := { stood := { row := launchDecidesUptoRow, standIns := [], harness := (true, "c072b0c5c500bbffbb3b1b4f9dd1c4797ea0c199d3bc216f5275e92ce92149e7"), looks := false }, kinds := [], alts := [], laidByText := true, laidKinds := [.data], laidTests := true, laidLooks := .later }
def LaunchDecidesUptoCardSaid : Prop := Claim7.holds Tryd.pinned (.plain (OpenSpec.upto launchDecidesSpec)) launchDecidesUptoCard

/-- THE SECOND FORM's CARD OF 'coblelaw05.LaunchRounds'. -/
def launchRoundsUptoCard : Claim7 := { stood := { row := launchRoundsUptoRow, standIns := [], harness := (true, "c072b0c5c500bbffbb3b1b4f9dd1c4797ea0c199d3bc216f5275e92ce92149e7"), looks := false }, kinds := [], alts := [], laidByText := true, laidKinds := [.data], laidTests := true, laidLooks := .later }
def LaunchRoundsUptoCardSaid : Prop := Claim7.holds Tryd.pinned (.plain (OpenSpec.upto launchRoundsSpec)) launchRoundsUptoCard

/-- THE SECOND FORM's CARD OF 'coblelaw05.LaunchComes'. -/
def launchComesUptoCard : Claim7 := { stood := { row := launchComesUptoRow, standIns := [], harness := (true, "c072b0c5c500bbffbb3b1b4f9dd1c4797ea0c199d3bc216f5275e92ce92149e7"), looks := false }, kinds := [], alts := [], laidByText := true, laidKinds := [.data], laidTests := true, laidLooks := .later }
def LaunchComesUptoCardSaid : Prop := Claim7.holds Tryd.pinned (.plain (OpenSpec.upto launchComesSpec)) launchComesUptoCard

/-- THE SECOND FORM's CARD OF 'coblelaw05.LaunchCheapest'. -/
def launchCheapestUptoCard : Claim7 := { stood := { row := launchCheapestUptoRow, standIns := [], harness := (true, "c072b0c5c500bbffbb3b1b4f9dd1c4797ea0c199d3bc216f5275e92ce92149e7"), looks := false }, kinds := [], alts := [], laidByText := true, laidKinds := [.data], laidTests := true, laidLooks := .later }
def LaunchCheapestUptoCardSaid : Prop := Claim7.holds Tryd.pinned (.plain (OpenSpec.upto launchCheapestSpec)) launchCheapestUptoCard

/-- THE SECOND FORM's CARD OF 'coblelaw05.LaunchEasier'. -/
def launchEasierUptoCard : Claim7 := { stood := { row := launchEasierUptoRow, standIns := [], harness := (true, "c072b0c5c500bbffbb3b1b4f9dd1c4797ea0c199d3bc216f5275e92ce92149e7"), looks := false }, kinds := [], alts := [], laidByText := true, laidKinds := [.data], laidTests := true, laidLooks := .later }
def LaunchEasierUptoCardSaid : Prop := Claim7.holds Tryd.pinned (.plain (OpenSpec.upto launchEasierSpec)) launchEasierUptoCard

/-- THE SECOND FORM's CARD OF 'coblelaw05.LaunchOpens'. -/
def launchOpensUptoCard : Claim7 := { stood := { row := launchOpensUptoRow, standIns := [], harness := (true, "c072b0c5c500bbffbb3b1b4f9dd1c4797ea0c199d3bc216f5275e92ce92149e7"), looks := false }, kinds := [], alts := [], laidByText := true, laidKinds := [.data], laidTests := true, laidLooks := .later }
def LaunchOpensUptoCardSaid : Prop := Claim7.holds Tryd.pinned (.plain (OpenSpec.upto launchOpensSpec)) launchOpensUptoCard

/-- THE SECOND FORM's CARD OF 'coblelaw05.LaunchBoards'. -/
def launchBoardsUptoCard : Claim7 := { stood := { row := launchBoardsUptoRow, standIns := [], harness := (true, "c072b0c5c500bbffbb3b1b4f9dd1c4797ea0c199d3bc216f5275e92ce92149e7"), looks := false }, kinds := [], alts := [], laidByText := true, laidKinds := [.data], laidTests := true, laidLooks := .later }
def LaunchBoardsUptoCardSaid : Prop := Claim7.holds Tryd.pinned (.plain (OpenSpec.upto launchBoardsSpec)) launchBoardsUptoCard

/-- THE SECOND FORM's CARD OF 'coblelaw05.LaunchSeats'. -/
def launchSeatsUptoCard : Claim7 := { stood := { row := launchSeatsUptoRow, standIns := [], harness := (true, "c072b0c5c500bbffbb3b1b4f9dd1c4797ea0c199d3bc216f5275e92ce92149e7"), looks := false }, kinds := [], alts := [], laidByText := true, laidKinds := [.data], laidTests := true, laidLooks := .later }
def LaunchSeatsUptoCardSaid : Prop := Claim7.holds Tryd.pinned (.plain (OpenSpec.upto launchSeatsSpec)) launchSeatsUptoCard

/-- THE SECOND FORM's CARD OF 'coblelaw05.LaunchRights'. -/
def launchRightsUptoCard : Claim7 := { stood := { row := launchRightsUptoRow, standIns := [], harness := (true, "c072b0c5c500bbffbb3b1b4f9dd1c4797ea0c199d3bc216f5275e92ce92149e7"), looks := false }, kinds := [], alts := [], laidByText := true, laidKinds := [.data], laidTests := true, laidLooks := .later }
def LaunchRightsUptoCardSaid : Prop := Claim7.holds Tryd.pinned (.plain (OpenSpec.upto launchRightsSpec)) launchRightsUptoCard

/-- THE SECOND FORM's CARD OF 'coblelaw05.LaunchUpright'. -/
def launchUprightUptoCard : Claim7 := { stood := { row := launchUprightUptoRow, standIns := [], harness := (true, "c072b0c5c500bbffbb3b1b4f9dd1c4797ea0c199d3bc216f5275e92ce92149e7"), looks := false }, kinds := [], alts := [], laidByText := true, laidKinds := [.data], laidTests := true, laidLooks := .later }
def LaunchUprightUptoCardSaid : Prop := Claim7.holds Tryd.pinned (.plain (OpenSpec.upto launchUprightSpec)) launchUprightUptoCard

/-- THE SECOND FORM's CARD OF 'coblelaw05.LaunchReaches'. -/
def launchReachesUptoCard : Claim7 := { stood := { row := launchReachesUptoRow, standIns := [], harness := (true, "c072b0c5c500bbffbb3b1b4f9dd1c4797ea0c199d3bc216f5275e92ce92149e7"), looks := false }, kinds := [], alts := [], laidByText := true, laidKinds := [.data], laidTests := true, laidLooks := .later }
def LaunchReachesUptoCardSaid : Prop := Claim7.holds Tryd.pinned (.plain (OpenSpec.upto launchReachesSpec)) launchReachesUptoCard
end Rows
end Go.Proofs.YtcnlbnccbnapbaaDoor
