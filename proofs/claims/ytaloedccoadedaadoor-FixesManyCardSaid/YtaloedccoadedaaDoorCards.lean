/-
  DERIVED. GIVEN WITH THE SEED: THE CARDS: each row of YtaloedccoadedaaDoorRows.lean that lists a variable, with what it lists TIED to the program's text (the seventh form; the later family's looks); each row that meets fmt, with fmt's text TOLD by the authors' own Lean function (tested against real Go, not proved from fmt's source: count such statements apart). THE CARD IS WHAT COUNTS. Prove the row's statement (the work); the ties are given (YtaloedccoadedaaDoorTie.lean); close each card by the builder's one call (the guide's Derived/Test/ToyasCard.lean, 'card_holds'). Laid BY PROGRAM, IN A SANDBOX (cutbox-door.mjs). By AI agents, Wed Nov 11 2026. No macro, syntax, notation, axiom, sorry.
-/
import Derived.Test.YtaloedccoadedaaDoorRows
import GoSem.ClaimSeven
namespace Go.Proofs.YtaloedccoadedaaDoor
namespace Rows

/-- THE TIED CARD OF 'coblelaw03.FixesConflict'. -/
def fixesConflictCard : Claim7 := { stood := { row := fixesConflictRow, standIns := [], harness := (true, "21b0930115c79db74655db851ecaaa2eead0969f0c6e38ef29ebd79b3f2a1ac0"), looks := false }, kinds := [], alts := [], laidByText := true, laidKinds := [.data, .data, .data], laidTests := true, laidLooks := .later }
def FixesConflictCardSaid : Prop := Claim7.holds Tryd.pinned (.plain (OpenSpec.ofChange fixesConflictSpec)) fixesConflictCard

/-- THE TIED CARD OF 'coblelaw03.FixesStrikes'. -/
def fixesStrikesCard : Claim7 := { stood := { row := fixesStrikesRow, standIns := [], harness := (true, "21b0930115c79db74655db851ecaaa2eead0969f0c6e38ef29ebd79b3f2a1ac0"), looks := false }, kinds := [], alts := [], laidByText := true, laidKinds := [.data, .data, .data], laidTests := true, laidLooks := .later }
def FixesStrikesCardSaid : Prop := Claim7.holds Tryd.pinned (.plain (OpenSpec.ofChange fixesStrikesSpec)) fixesStrikesCard

/-- THE TIED CARD OF 'coblelaw03.FixesDoubts'. -/
def fixesDoubtsCard : Claim7 := { stood := { row := fixesDoubtsRow, standIns := [], harness := (true, "21b0930115c79db74655db851ecaaa2eead0969f0c6e38ef29ebd79b3f2a1ac0"), looks := false }, kinds := [], alts := [], laidByText := true, laidKinds := [.data, .data, .data], laidTests := true, laidLooks := .later }
def FixesDoubtsCardSaid : Prop := Claim7.holds Tryd.pinned (.plain (OpenSpec.ofChange fixesDoubtsSpec)) fixesDoubtsCard

/-- THE TIED CARD OF 'coblelaw03.FixesWhere'. -/
def fixesWhereCard : Claim7 := { stood := { row := fixesWhereRow, standIns := [], harness := (true, "21b0930115c79db74655db851ecaaa2eead0969f0c6e38ef29ebd79b3f2a1ac0"), looks := false }, kinds := [], alts := [], laidByText := true, laidKinds := [.data, .data, .data], laidTests := true, laidLooks := .later }
def FixesWhereCardSaid : Prop := Claim7.holds Tryd.pinned (.plain (OpenSpec.ofChange fixesWhereSpec)) fixesWhereCard

/-- THE TIED CARD OF 'coblelaw03.FixesFound'. -/
def fixesFoundCard : Claim7 := { stood := { row := fixesFoundRow, standIns := [], harness := (true, "21b0930115c79db74655db851ecaaa2eead0969f0c6e38ef29ebd79b3f2a1ac0"), looks := false }, kinds := [], alts := [], laidByText := true, laidKinds := [.data, .data, .data], laidTests := true, laidLooks := .later }
def FixesFoundCardSaid : Prop := Claim7.holds Tryd.pinned (.plain (OpenSpec.ofChange fixesFoundSpec)) fixesFoundCard

/-- THE TIED CARD OF 'coblelaw03.FixesReal'. -/
def fixesRealCard : Claim7 := { stood := { row := fixesRealRow, standIns := [], harness := (true, "21b0930115c79db74655db851ecaaa2eead0969f0c6e38ef29ebd79b3f2a1ac0"), looks := false }, kinds := [], alts := [], laidByText := true, laidKinds := [.data, .data, .data], laidTests := true, laidLooks := .later }
def FixesRealCardSaid : Prop := Claim7.holds Tryd.pinned (.plain (OpenSpec.ofChange fixesRealSpec)) fixesRealCard

/-- THE TIED CARD OF 'coblelaw03.FixesSources'. -/
def fixesSourcesCard : Claim7 := { stood := { row := fixesSourcesRow, standIns := [], harness := (true, "21b0930115c79db74655db851ecaaa2eead0969f0c6e38ef29ebd79b3f2a1ac0"), looks := false }, kinds := [], alts := [], laidByText := true, laidKinds := [.data, .data, .data], laidTests := true, laidLooks := .later }
def FixesSourcesCardSaid : Prop := Claim7.holds Tryd.pinned (.plain (OpenSpec.ofChange fixesSourcesSpec)) fixesSourcesCard

/-- THE TIED CARD OF 'coblelaw03.FixesMany'. -/
def fixesManyCard : Claim7 := { stood := { row := fixesManyRow, standIns := [], harness := (true, "21b0930115c79db74655db851ecaaa2eead0969f0c6e38ef29ebd79b3f2a1ac0"), looks := false }, kinds := [], alts := [], laidByText := true, laidKinds := [.data, .data, .data], laidTests := true, laidLooks := .later }
def FixesManyCardSaid : Prop := Claim7.holds Tryd.pinned (.plain (OpenSpec.ofChange fixesManySpec)) fixesManyCard

/-- THE TIED CARD OF 'coblelaw03.FixesLeast'. -/
def fixesLeastCard : Claim7 := { stood := { row := fixesLeastRow, standIns := [], harness := (true, "21b0930115c79db74655db851ecaaa2eead0969f0c6e38ef29ebd79b3f2a1ac0"), looks := false }, kinds := [], alts := [], laidByText := true, laidKinds := [.data, .data, .data], laidTests := true, laidLooks := .later }
def FixesLeastCardSaid : Prop := Claim7.holds Tryd.pinned (.plain (OpenSpec.ofChange fixesLeastSpec)) fixesLeastCard

/-- THE TIED CARD OF 'coblelaw03.FixesReasons'. -/
def fixesReasonsCard : Claim7 := { stood := { row := fixesReasonsRow, standIns := [], harness := (true, "21b0930115c79db74655db851ecaaa2eead0969f0c6e38ef29ebd79b3f2a1ac0"), looks := false }, kinds := [], alts := [], laidByText := true, laidKinds := [.data, .data, .data], laidTests := true, laidLooks := .later }
def FixesReasonsCardSaid : Prop := Claim7.holds Tryd.pinned (.plain (OpenSpec.ofChange fixesReasonsSpec)) fixesReasonsCard

/-- THE SECOND FORM's CARD OF 'coblelaw03.FixesConflict'. -/
def fixesConflictUptoCard : Claim7 := { stood := { row := fixesConflictUptoRow, standIns := [], harness := (true, "21b0930115c79db74655db851ecaaa2eead0969f0c6e38ef29ebd79b3f2a1ac0"), looks := false }, kinds := [], alts := [], laidByText := true, laidKinds := [.data, .data, .data], laidTests := true, laidLooks := .later }
def FixesConflictUptoCardSaid : Prop := Claim7.holds Tryd.pinned (.plain (OpenSpec.upto fixesConflictSpec)) fixesConflictUptoCard

/-- THE SECOND FORM's CARD OF 'coblelaw03.FixesStrikes'. -/
def fixesStrikesUptoCard : Claim7 := { stood := { row := fixesStrikesUptoRow, standIns := [], harness := (true, "21b0930115c79db74655db851ecaaa2eead0969f0c6e38ef29ebd79b3f2a1ac0"), looks := false }, kinds := [], alts := [], laidByText := true, laidKinds := [.data, .data, .data], laidTests := true, laidLooks := .later }
def FixesStrikesUptoCardSaid : Prop := Claim7.holds Tryd.pinned (.plain (OpenSpec.upto fixesStrikesSpec)) fixesStrikesUptoCard

/-- THE SECOND FORM's CARD OF 'coblelaw03.FixesDoubts'. -/
def fixesDoubtsUptoCard : Claim7 := { stood := { row := fixesDoubtsUptoRow, standIns := [], harness := (true, "21b0930115c79db74655db851ecaaa2eead0969f0c6e38ef29ebd79b3f2a1ac0"), looks := false }, kinds := [], alts := [], laidByText := true, laidKinds := [.data, .data, .data], laidTests := true, laidLooks := .later }
def FixesDoubtsUptoCardSaid : Prop := Claim7.holds Tryd.pinned (.plain (OpenSpec.upto fixesDoubtsSpec)) fixesDoubtsUptoCard

/-- THE SECOND FORM's CARD OF 'coblelaw03.FixesWhere'. -/
def fixesWhereUptoCard : Claim7 := { stood := { row := fixesWhereUptoRow, standIns := [], harness := (true, "21b0930115c79db74655db851ecaaa2eead0969f0c6e38ef29ebd79b3f2a1ac0"), looks := false }, kinds := [], alts := [], laidByText := true, laidKinds := [.data, .data, .data], laidTests := true, laidLooks := .later }
def FixesWhereUptoCardSaid : Prop := Claim7.holds Tryd.pinned (.plain (OpenSpec.upto fixesWhereSpec)) fixesWhereUptoCard

/-- THE SECOND FORM's CARD OF 'coblelaw03.FixesFound'. -/
def fixesFoundUptoCard : Claim7 := { stood := { row := fixesFoundUptoRow, standIns := [], harness := (true, "21b0930115c79db74655db851ecaaa2eead0969f0c6e38ef29ebd79b3f2a1ac0"), looks := false }, kinds := [], alts := [], laidByText := true, laidKinds := [.data, .data, .data], laidTests := true, laidLooks := .later }
def FixesFoundUptoCardSaid : Prop := Claim7.holds Tryd.pinned (.plain (OpenSpec.upto fixesFoundSpec)) fixesFoundUptoCard

/-- THE SECOND FORM's CARD OF 'coblelaw03.FixesReal'. -/
def fixesRealUptoCard : Claim7 := { stood := { row := fixesRealUptoRow, standIns := [], harness := (true, "21b0930115c79db74655db851ecaaa2eead0969f0c6e38ef29ebd79b3f2a1ac0"), looks := false }, kinds := [], alts := [], laidByText := true, laidKinds := [.data, .data, .data], laidTests := true, laidLooks := .later }
def FixesRealUptoCardSaid : Prop := Claim7.holds Tryd.pinned (.plain (OpenSpec.upto fixesRealSpec)) fixesRealUptoCard

/-- THE SECOND FORM's CARD OF 'coblelaw03.FixesSources'. -/
def fixesSourcesUptoCard : Claim7 := { stood := { row := fixesSourcesUptoRow, standIns := [], harness := (true, "21b0930115c79db74655db851ecaaa2eead0969f0c6e38ef29ebd79b3f2a1ac0"), looks := false }, kinds := [], alts := [], laidByText := true, laidKinds := [.data, .data, .data], laidTests := true, laidLooks := .later }
def FixesSourcesUptoCardSaid : Prop := Claim7.holds Tryd.pinned (.plain (OpenSpec.upto fixesSourcesSpec)) fixesSourcesUptoCard

/-- THE SECOND FORM's CARD OF 'coblelaw03.FixesMany'. -/
def fixesManyUptoCard : Claim7 := { stood := { row := fixesManyUptoRow, standIns := [], harness := (true, "21b0930115c79db74655db851ecaaa2eead0969f0c6e38ef29ebd79b3f2a1ac0"), looks := false }, kinds := [], alts := [], laidByText := true, laidKinds := [.data, .data, .data], laidTests := true, laidLooks := .later }
def FixesManyUptoCardSaid : Prop := Claim7.holds Tryd.pinned (.plain (OpenSpec.upto fixesManySpec)) fixesManyUptoCard

/-- THE SECOND FORM's CARD OF 'coblelaw03.FixesLeast'. -/
def fixesLeastUptoCard : Claim7 := { stood := { row := fixesLeastUptoRow, standIns := [], harness := (true, "21b0930115c79db74655db851ecaaa2eead0969f0c6e38ef29ebd79b3f2a1ac0"), looks := false }, kinds := [], alts := [], laidByText := true, laidKinds := [.data, .data, .data], laidTests := true, laidLooks := .later }
def FixesLeastUptoCardSaid : Prop := Claim7.holds Tryd.pinned (.plain (OpenSpec.upto fixesLeastSpec)) fixesLeastUptoCard

/-- THE SECOND FORM's CARD OF 'coblelaw03.FixesReasons'. -/
def fixesReasonsUptoCard : Claim7 := { stood := { row := fixesReasonsUptoRow, standIns := [], harness := (true, "21b0930115c79db74655db851ecaaa2eead0969f0c6e38ef29ebd79b3f2a1ac0"), looks := false }, kinds := [], alts := [], laidByText := true, laidKinds := [.data, .data, .data], laidTests := true, laidLooks := .later }
def FixesReasonsUptoCardSaid : Prop := Claim7.holds Tryd.pinned (.plain (OpenSpec.upto fixesReasonsSpec)) fixesReasonsUptoCard
end Rows
end Go.Proofs.YtaloedccoadedaaDoor
