/-
  DERIVED. GIVEN WITH THE SEED: THE CARDS: each row of YtcnjhgnlcnmagaaDoorRows.lean that lists a variable, with what it lists TIED to the program's text (the seventh form; the later family's looks); each row that meets fmt, with fmt's text TOLD by the authors' own Lean function (tested against real Go, not proved from fmt's source: count such statements apart). THE CARD IS WHAT COUNTS. Prove the row's statement (the work); the ties are given (YtcnjhgnlcnmagaaDoorTie.lean); close each card by the builder's one call (the guide's Derived/Test/ToyasCard.lean, 'card_holds'). Laid BY PROGRAM, IN A SANDBOX (cutbox-door.mjs). By AI agents, Wed Nov 11 2026. No macro, syntax, notation, axiom, sorry.
-/
import Derived.Test.YtcnjhgnlcnmagaaDoorRows
import GoSem.ClaimSeven
namespace Go.Proofs.YtcnjhgnlcnmagaaDoor
namespace Rows

/-- THE TIED CARD OF 'coblelaw01.ChartWindows'. -/
def chartWindowsCard : Claim7 := { stood := { row := chartWindowsRow, standIns := [], harness := (true, "a2bec7e2312cf6784312fc3692bae327362d6fe6a838bed7ebe40707a690f770"), looks := false }, kinds := [], alts := [], laidByText := true, laidKinds := [.data], laidTests := true, laidLooks := .later }
def ChartWindowsCardSaid : Prop := Claim7.holds Tryd.pinned (.plain (OpenSpec.ofChange chartWindowsSpec)) chartWindowsCard

/-- THE TIED CARD OF 'coblelaw01.ChartLaunched'. -/
def chartLaunchedCard : Claim7 := { stood := { row := chartLaunchedRow, standIns := [], harness := (true, "a2bec7e2312cf6784312fc3692bae327362d6fe6a838bed7ebe40707a690f770"), looks := false }, kinds := [], alts := [], laidByText := true, laidKinds := [.data], laidTests := true, laidLooks := .later }
def ChartLaunchedCardSaid : Prop := Claim7.holds Tryd.pinned (.plain (OpenSpec.ofChange chartLaunchedSpec)) chartLaunchedCard

/-- THE TIED CARD OF 'coblelaw01.ChartCells'. -/
def chartCellsCard : Claim7 := { stood := { row := chartCellsRow, standIns := [], harness := (true, "a2bec7e2312cf6784312fc3692bae327362d6fe6a838bed7ebe40707a690f770"), looks := false }, kinds := [], alts := [], laidByText := true, laidKinds := [.data], laidTests := true, laidLooks := .later }
def ChartCellsCardSaid : Prop := Claim7.holds Tryd.pinned (.plain (OpenSpec.ofChange chartCellsSpec)) chartCellsCard

/-- THE TIED CARD OF 'coblelaw01.ChartBack'. -/
def chartBackCard : Claim7 := { stood := { row := chartBackRow, standIns := [], harness := (true, "a2bec7e2312cf6784312fc3692bae327362d6fe6a838bed7ebe40707a690f770"), looks := false }, kinds := [], alts := [], laidByText := true, laidKinds := [.data], laidTests := true, laidLooks := .later }
def ChartBackCardSaid : Prop := Claim7.holds Tryd.pinned (.plain (OpenSpec.ofChange chartBackSpec)) chartBackCard

/-- THE TIED CARD OF 'coblelaw01.ChartFloats'. -/
def chartFloatsCard : Claim7 := { stood := { row := chartFloatsRow, standIns := [], harness := (true, "a2bec7e2312cf6784312fc3692bae327362d6fe6a838bed7ebe40707a690f770"), looks := false }, kinds := [], alts := [], laidByText := true, laidKinds := [.data], laidTests := true, laidLooks := .later }
def ChartFloatsCardSaid : Prop := Claim7.holds Tryd.pinned (.plain (OpenSpec.ofChange chartFloatsSpec)) chartFloatsCard

/-- THE TIED CARD OF 'coblelaw01.ChartAfloat'. -/
def chartAfloatCard : Claim7 := { stood := { row := chartAfloatRow, standIns := [], harness := (true, "a2bec7e2312cf6784312fc3692bae327362d6fe6a838bed7ebe40707a690f770"), looks := false }, kinds := [], alts := [], laidByText := true, laidKinds := [.data], laidTests := true, laidLooks := .later }
def ChartAfloatCardSaid : Prop := Claim7.holds Tryd.pinned (.plain (OpenSpec.ofChange chartAfloatSpec)) chartAfloatCard

/-- THE TIED CARD OF 'coblelaw01.ChartLess'. -/
def chartLessCard : Claim7 := { stood := { row := chartLessRow, standIns := [], harness := (true, "a2bec7e2312cf6784312fc3692bae327362d6fe6a838bed7ebe40707a690f770"), looks := false }, kinds := [], alts := [], laidByText := true, laidKinds := [.data], laidTests := true, laidLooks := .later }
def ChartLessCardSaid : Prop := Claim7.holds Tryd.pinned (.plain (OpenSpec.ofChange chartLessSpec)) chartLessCard

/-- THE TIED CARD OF 'coblelaw01.ChartPassages'. -/
def chartPassagesCard : Claim7 := { stood := { row := chartPassagesRow, standIns := [], harness := (true, "a2bec7e2312cf6784312fc3692bae327362d6fe6a838bed7ebe40707a690f770"), looks := false }, kinds := [], alts := [], laidByText := true, laidKinds := [.data], laidTests := true, laidLooks := .later }
def ChartPassagesCardSaid : Prop := Claim7.holds Tryd.pinned (.plain (OpenSpec.ofChange chartPassagesSpec)) chartPassagesCard

/-- THE TIED CARD OF 'coblelaw01.ChartReturns'. -/
def chartReturnsCard : Claim7 := { stood := { row := chartReturnsRow, standIns := [], harness := (true, "a2bec7e2312cf6784312fc3692bae327362d6fe6a838bed7ebe40707a690f770"), looks := false }, kinds := [], alts := [], laidByText := true, laidKinds := [.data], laidTests := true, laidLooks := .later }
def ChartReturnsCardSaid : Prop := Claim7.holds Tryd.pinned (.plain (OpenSpec.ofChange chartReturnsSpec)) chartReturnsCard

/-- THE TIED CARD OF 'coblelaw09.TowsVeers'. -/
def towsVeersCard : Claim7 := { stood := { row := towsVeersRow, standIns := [], harness := (true, "a2bec7e2312cf6784312fc3692bae327362d6fe6a838bed7ebe40707a690f770"), looks := false }, kinds := [], alts := [], laidByText := true, laidKinds := [.data], laidTests := true, laidLooks := .later }
def TowsVeersCardSaid : Prop := Claim7.holds Tryd.pinned (.plain (OpenSpec.ofChange towsVeersSpec)) towsVeersCard

/-- THE TIED CARD OF 'coblelaw09.TowsAnchored'. -/
def towsAnchoredCard : Claim7 := { stood := { row := towsAnchoredRow, standIns := [], harness := (true, "a2bec7e2312cf6784312fc3692bae327362d6fe6a838bed7ebe40707a690f770"), looks := false }, kinds := [], alts := [], laidByText := true, laidKinds := [.data], laidTests := true, laidLooks := .later }
def TowsAnchoredCardSaid : Prop := Claim7.holds Tryd.pinned (.plain (OpenSpec.ofChange towsAnchoredSpec)) towsAnchoredCard

/-- THE SECOND FORM's CARD OF 'coblelaw01.ChartWindows'. -/
def chartWindowsUptoCard : Claim7 := { stood := { row := chartWindowsUptoRow, standIns := [], harness := (true, "a2bec7e2312cf6784312fc3692bae327362d6fe6a838bed7ebe40707a690f770"), looks := false }, kinds := [], alts := [], laidByText := true, laidKinds := [.data], laidTests := true, laidLooks := .later }
def ChartWindowsUptoCardSaid : Prop := Claim7.holds Tryd.pinned (.plain (OpenSpec.upto chartWindowsSpec)) chartWindowsUptoCard

/-- THE SECOND FORM's CARD OF 'coblelaw01.ChartLaunched'. -/
def chartLaunchedUptoCard : Claim7 := { stood := { row := chartLaunchedUptoRow, standIns := [], harness := (true, "a2bec7e2312cf6784312fc3692bae327362d6fe6a838bed7ebe40707a690f770"), looks := false }, kinds := [], alts := [], laidByText := true, laidKinds := [.data], laidTests := true, laidLooks := .later }
def ChartLaunchedUptoCardSaid : Prop := Claim7.holds Tryd.pinned (.plain (OpenSpec.upto chartLaunchedSpec)) chartLaunchedUptoCard

/-- THE SECOND FORM's CARD OF 'coblelaw01.ChartCells'. -/
def chartCellsUptoCard : Claim7 := { stood := { row := chartCellsUptoRow, standIns := [], harness := (true, "a2bec7e2312cf6784312fc3692bae327362d6fe6a838bed7ebe40707a690f770"), looks := false }, kinds := [], alts := [], laidByText := true, laidKinds := [.data], laidTests := true, laidLooks := .later }
def ChartCellsUptoCardSaid : Prop := Claim7.holds Tryd.pinned (.plain (OpenSpec.upto chartCellsSpec)) chartCellsUptoCard

/-- THE SECOND FORM's CARD OF 'coblelaw01.ChartBack'. -/
def chartBackUptoCard : Claim7 := { stood := { row := chartBackUptoRow, standIns := [], harness := (true, "a2bec7e2312cf6784312fc3692bae327362d6fe6a838bed7ebe40707a690f770"), looks := false }, kinds := [], alts := [], laidByText := true, laidKinds := [.data], laidTests := true, laidLooks := .later }
def ChartBackUptoCardSaid : Prop := Claim7.holds Tryd.pinned (.plain (OpenSpec.upto chartBackSpec)) chartBackUptoCard

/-- THE SECOND FORM's CARD OF 'coblelaw01.ChartFloats'. -/
def chartFloatsUptoCard : Claim7 := { stood := { row := chartFloatsUptoRow, standIns := [], harness := (true, "a2bec7e2312cf6784312fc3692bae327362d6fe6a838bed7ebe40707a690f770"), looks := false }, kinds := [], alts := [], laidByText := true, laidKinds := [.data], laidTests := true, laidLooks := .later }
def ChartFloatsUptoCardSaid : Prop := Claim7.holds Tryd.pinned (.plain (OpenSpec.upto chartFloatsSpec)) chartFloatsUptoCard

/-- THE SECOND FORM's CARD OF 'coblelaw01.ChartAfloat'. -/
def chartAfloatUptoCard : Claim7 := { stood := { row := chartAfloatUptoRow, standIns := [], harness := (true, "a2bec7e2312cf6784312fc3692bae327362d6fe6a838bed7ebe40707a690f770"), looks := false }, kinds := [], alts := [], laidByText := true, laidKinds := [.data], laidTests := true, laidLooks := .later }
def ChartAfloatUptoCardSaid : Prop := Claim7.holds Tryd.pinned (.plain (OpenSpec.upto chartAfloatSpec)) chartAfloatUptoCard

/-- THE SECOND FORM's CARD OF 'coblelaw01.ChartLess'. -/
def chartLessUptoCard : Claim7 := { stood := { row := chartLessUptoRow, standIns := [], harness := (true, "a2bec7e2312cf6784312fc3692bae327362d6fe6a838bed7ebe40707a690f770"), looks := false }, kinds := [], alts := [], laidByText := true, laidKinds := [.data], laidTests := true, laidLooks := .later }
def ChartLessUptoCardSaid : Prop := Claim7.holds Tryd.pinned (.plain (OpenSpec.upto chartLessSpec)) chartLessUptoCard

/-- THE SECOND FORM's CARD OF 'coblelaw01.ChartPassages'. -/
def chartPassagesUptoCard : Claim7 := { stood := { row := chartPassagesUptoRow, standIns := [], harness := (true, "a2bec7e2312cf6784312fc3692bae327362d6fe6a838bed7ebe40707a690f770"), looks := false }, kinds := [], alts := [], laidByText := true, laidKinds := [.data], laidTests := true, laidLooks := .later }
def ChartPassagesUptoCardSaid : Prop := Claim7.holds Tryd.pinned (.plain (OpenSpec.upto chartPassagesSpec)) chartPassagesUptoCard

/-- THE SECOND FORM's CARD OF 'coblelaw01.ChartReturns'. -/
def chartReturnsUptoCard : Claim7 := { stood := { row := chartReturnsUptoRow, standIns := [], harness := (true, "a2bec7e2312cf6784312fc3692bae327362d6fe6a838bed7ebe40707a690f770"), looks := false }, kinds := [], alts := [], laidByText := true, laidKinds := [.data], laidTests := true, laidLooks := .later }
def ChartReturnsUptoCardSaid : Prop := Claim7.holds Tryd.pinned (.plain (OpenSpec.upto chartReturnsSpec)) chartReturnsUptoCard

/-- THE SECOND FORM's CARD OF 'coblelaw09.TowsVeers'. -/
def towsVeersUptoCard : Claim7 := { stood := { row := towsVeersUptoRow, standIns := [], harness := (true, "a2bec7e2312cf6784312fc3692bae327362d6fe6a838bed7ebe40707a690f770"), looks := false }, kinds := [], alts := [], laidByText := true, laidKinds := [.data], laidTests := true, laidLooks := .later }
def TowsVeersUptoCardSaid : Prop := Claim7.holds Tryd.pinned (.plain (OpenSpec.upto towsVeersSpec)) towsVeersUptoCard

/-- THE SECOND FORM's CARD OF 'coblelaw09.TowsAnchored'. -/
def towsAnchoredUptoCard : Claim7 := { stood := { row := towsAnchoredUptoRow, standIns := [], harness := (true, "a2bec7e2312cf6784312fc3692bae327362d6fe6a838bed7ebe40707a690f770"), looks := false }, kinds := [], alts := [], laidByText := true, laidKinds := [.data], laidTests := true, laidLooks := .later }
def TowsAnchoredUptoCardSaid : Prop := Claim7.holds Tryd.pinned (.plain (OpenSpec.upto towsAnchoredSpec)) towsAnchoredUptoCard
end Rows
end Go.Proofs.YtcnjhgnlcnmagaaDoor
