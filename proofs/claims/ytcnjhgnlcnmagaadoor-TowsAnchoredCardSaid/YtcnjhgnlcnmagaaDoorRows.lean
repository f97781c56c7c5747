/-
  NARROWER THAN 'FOR EVERY INPUT', by the rows' own cells (each row's printed sentence says how): ChartWindows: laid · ChartLaunched: laid · ChartCells: laid · ChartBack: laid · ChartFloats: laid · ChartAfloat: laid · ChartLess: laid · ChartPassages: laid · ChartReturns: laid · TowsVeers: laid · TowsAnchored: laid.
  DERIVED. THE GIVEN ROWS OF THIS SEAT. 11 by the template 'for every input the law returns true; each argument reads behind the call as it read before'; 0 by the template 'total and deterministic' (their statements: YtcnjhgnlcnmagaaDoorTotals.lean).
  GIVEN WITH THE SEED: the statements are not yours to turn. If you find one false, say at which input.
  Laid BY PROGRAM, IN A SANDBOX (cutbox-rows.mjs): the forced cells as the released guide's own fill.sh prints them over the translation bb07b56869bafcc5… (all of the seat's roots in one cut). By AI agents, Wed Nov 11 2026. No macro, syntax, notation, axiom, sorry.
-/
import Derived.Test.YtcnjhgnlcnmagaaDoorChecked
import GoSem.Claim
import GoSem.ClaimJoined
import GoSem.ClaimMapViews
import Derived.JoinedTies
import Derived.KernelRfl
namespace Go.Proofs.YtcnjhgnlcnmagaaDoor
/- THE CELL 'sum', in the pinned program and in every row, IS THE sha256 OF THE DUMP (.gsa) THAT YtcnjhgnlcnmagaaDoorProg.lean LOADS. Nothing in Lean hashes anything: it is a label: what it is worth is what the hold of that sum in a sandbox is worth. -/
noncomputable def Tryd.pinned : Pinned := { name := "ytcnjhgnlcnmagaadoor", sum := "bb07b56869bafcc5b2ccf649fa0da8a6b4b940c7c3302368137dc189de55fe04", checked := Tryd.checked }
namespace Rows
def none {H : Type} : Left H := { results := [], args := [] }

/- WHAT THE LISTED PACKAGE-LEVEL VARIABLES READ AS WHEN THE CALL BEGINS. Each datum BY PROGRAM (the guide's laid-datum.mjs) off the statement by which the dump's own 'gosem.cut.vars' lays the variable. In a bare row this is a premise. The card (YtcnjhgnlcnmagaaDoorCards.lean) ties it to the program's text. -/
def laid_coble_chart_ways {H : Type} : DataW H := .agg [.agg [.lit (.int .i64 1), .lit (.int .i64 1), .lit (.int .i64 0)], .agg [.lit (.int .i64 0), .lit (.int .i64 1), .lit (.int .i64 1)], .agg [.lit (.int .i64 (-1)), .lit (.int .i64 0), .lit (.int .i64 1)], .agg [.lit (.int .i64 (-1)), .lit (.int .i64 (-1)), .lit (.int .i64 0)], .agg [.lit (.int .i64 (-1)), .lit (.int .i64 0), .lit (.int .i64 (-1))], .agg [.lit (.int .i64 0), .lit (.int .i64 1), .lit (.int .i64 (-1))]]

/-- 'coblelaw01.ChartWindows': WHATEVER THE INPUT: true; the input reads as it did. -/
def chartWindowsSpec : ChangeSpec := { name := "chartWindows", fn := fun _ => fun
  | [d1, d2] => { results := [.lit (.bool true)], args := [d1, d2] }
  | _ => none }
def chartWindowsRow : OpenClaim := { program := "ytcnjhgnlcnmagaadoor", sum := "bb07b56869bafcc5b2ccf649fa0da8a6b4b940c7c3302368137dc189de55fe04", func := "coble/coblelaw01.ChartWindows", spec := "chartWindows", unfollowed := true, recurses := true, named := ["coble/chart.ways"], apart := false, laid := [("coble/chart.ways", laid_coble_chart_ways)] }
def ChartWindowsSaid : Prop := chartWindowsRow.holds Tryd.pinned (OpenSpec.ofChange chartWindowsSpec)

/-- ITS FALSE NEIGHBOUR: 'it returns false'. Refute it at one input. -/
def chartWindowsWrong : ChangeSpec := { name := "chartWindows", fn := fun _ => fun
  | [d1, d2] => { results := [.lit (.bool false)], args := [d1, d2] }
  | _ => none }
def ChartWindowsWrongFalsely : Prop := chartWindowsRow.holds Tryd.pinned (OpenSpec.ofChange chartWindowsWrong)

/-- 'coblelaw01.ChartLaunched': WHATEVER THE INPUT: true; the input reads as it did. -/
def chartLaunchedSpec : ChangeSpec := { name := "chartLaunched", fn := fun _ => fun
  | [d1, d2, d3, d4] => { results := [.lit (.bool true)], args := [d1, d2, d3, d4] }
  | _ => none }
def chartLaunchedRow : OpenClaim := { program := "ytcnjhgnlcnmagaadoor", sum := "bb07b56869bafcc5b2ccf649fa0da8a6b4b940c7c3302368137dc189de55fe04", func := "coble/coblelaw01.ChartLaunched", spec := "chartLaunched", unfollowed := true, recurses := true, named := ["coble/chart.ways"], apart := false, laid := [("coble/chart.ways", laid_coble_chart_ways)] }
def ChartLaunchedSaid : Prop := chartLaunchedRow.holds Tryd.pinned (OpenSpec.ofChange chartLaunchedSpec)

/-- ITS FALSE NEIGHBOUR: 'it returns false'. Refute it at one input. -/
def chartLaunchedWrong : ChangeSpec := { name := "chartLaunched", fn := fun _ => fun
  | [d1, d2, d3, d4] => { results := [.lit (.bool false)], args := [d1, d2, d3, d4] }
  | _ => none }
def ChartLaunchedWrongFalsely : Prop := chartLaunchedRow.holds Tryd.pinned (OpenSpec.ofChange chartLaunchedWrong)

/-- 'coblelaw01.ChartCells': WHATEVER THE INPUT: true; the input reads as it did. -/
def chartCellsSpec : ChangeSpec := { name := "chartCells", fn := fun _ => fun
  | [d1, d2, d3] => { results := [.lit (.bool true)], args := [d1, d2, d3] }
  | _ => none }
def chartCellsRow : OpenClaim := { program := "ytcnjhgnlcnmagaadoor", sum := "bb07b56869bafcc5b2ccf649fa0da8a6b4b940c7c3302368137dc189de55fe04", func := "coble/coblelaw01.ChartCells", spec := "chartCells", unfollowed := true, recurses := true, named := ["coble/chart.ways"], apart := false, laid := [("coble/chart.ways", laid_coble_chart_ways)] }
def ChartCellsSaid : Prop := chartCellsRow.holds Tryd.pinned (OpenSpec.ofChange chartCellsSpec)

/-- ITS FALSE NEIGHBOUR: 'it returns false'. Refute it at one input. -/
def chartCellsWrong : ChangeSpec := { name := "chartCells", fn := fun _ => fun
  | [d1, d2, d3] => { results := [.lit (.bool false)], args := [d1, d2, d3] }
  | _ => none }
def ChartCellsWrongFalsely : Prop := chartCellsRow.holds Tryd.pinned (OpenSpec.ofChange chartCellsWrong)

/-- 'coblelaw01.ChartBack': WHATEVER THE INPUT: true; the input reads as it did. -/
def chartBackSpec : ChangeSpec := { name := "chartBack", fn := fun _ => fun
  | [d1, d2, d3, d4] => { results := [.lit (.bool true)], args := [d1, d2, d3, d4] }
  | _ => none }
def chartBackRow : OpenClaim := { program := "ytcnjhgnlcnmagaadoor", sum := "bb07b56869bafcc5b2ccf649fa0da8a6b4b940c7c3302368137dc189de55fe04", func := "coble/coblelaw01.ChartBack", spec := "chartBack", unfollowed := true, recurses := true, named := ["coble/chart.ways"], apart := false, laid := [("coble/chart.ways", laid_coble_chart_ways)] }
def ChartBackSaid : Prop := chartBackRow.holds Tryd.pinned (OpenSpec.ofChange chartBackSpec)

/-- ITS FALSE NEIGHBOUR: 'it returns false'. Refute it at one input. -/
def chartBackWrong : ChangeSpec := { name := "chartBack", fn := fun _ => fun
  | [d1, d2, d3, d4] => { results := [.lit (.bool false)], args := [d1, d2, d3, d4] }
  | _ => none }
def ChartBackWrongFalsely : Prop := chartBackRow.holds Tryd.pinned (OpenSpec.ofChange chartBackWrong)

/-- 'coblelaw01.ChartFloats': WHATEVER THE INPUT: true; the input reads as it did. -/
def chartFloatsSpec : ChangeSpec := { name := "chartFloats", fn := fun _ => fun
  | [d1, d2] => { results := [.lit (.bool true)], args := [d1, d2] }
  | _ => none }
def chartFloatsRow : OpenClaim := { program := "ytcnjhgnlcnmagaadoor", sum := "bb07b56869bafcc5b2ccf649fa0da8a6b4b940c7c3302368137dc189de55fe04", func := "coble/coblelaw01.ChartFloats", spec := "chartFloats", unfollowed := true, recurses := true, named := ["coble/chart.ways"], apart := false, laid := [("coble/chart.ways", laid_coble_chart_ways)] }
def ChartFloatsSaid : Prop := chartFloatsRow.holds Tryd.pinned (OpenSpec.ofChange chartFloatsSpec)

/-- ITS FALSE NEIGHBOUR: 'it returns false'. Refute it at one input. -/
def chartFloatsWrong : ChangeSpec := { name := "chartFloats", fn := fun _ => fun
  | [d1, d2] => { results := [.lit (.bool false)], args := [d1, d2] }
  | _ => none }
def ChartFloatsWrongFalsely : Prop := chartFloatsRow.holds Tryd.pinned (OpenSpec.ofChange chartFloatsWrong)

/-- 'coblelaw01.ChartAfloat': WHATEVER THE INPUT: true; the input reads as it did. -/
def chartAfloatSpec : ChangeSpec := { name := "chartAfloat", fn := fun _ => fun
  | [d1, d2, d3, d4] => { results := [.lit (.bool true)], args := [d1, d2, d3, d4] }
  | _ => none }
def chartAfloatRow : OpenClaim := { program := "ytcnjhgnlcnmagaadoor", sum := "bb07b56869bafcc5b2ccf649fa0da8a6b4b940c7c3302368137dc189de55fe04", func := "coble/coblelaw01.ChartAfloat", spec := "chartAfloat", unfollowed := true, recurses := true, named := ["coble/chart.ways"], apart := false, laid := [("coble/chart.ways", laid_coble_chart_ways)] }
def ChartAfloatSaid : Prop := chartAfloatRow.holds Tryd.pinned (OpenSpec.ofChange chartAfloatSpec)

/-- ITS FALSE NEIGHBOUR: 'it returns false'. Refute it at one input. -/
def chartAfloatWrong : ChangeSpec := { name := "chartAfloat", fn := fun _ => fun
  | [d1, d2, d3, d4] => { results := [.lit (.bool false)], args := [d1, d2, d3, d4] }
  | _ => none }
def ChartAfloatWrongFalsely : Prop := chartAfloatRow.holds Tryd.pinned (OpenSpec.ofChange chartAfloatWrong)

/-- 'coblelaw01.ChartLess': WHATEVER THE INPUT: true; the input reads as it did. -/
def chartLessSpec : ChangeSpec := { name := "chartLess", fn := fun _ => fun
  | [d1, d2, d3, d4] => { results := [.lit (.bool true)], args := [d1, d2, d3, d4] }
  | _ => none }
def chartLessRow : OpenClaim := { program := "ytcnjhgnlcnmagaadoor", sum := "bb07b56869bafcc5b2ccf649fa0da8a6b4b940c7c3302368137dc189de55fe04", func := "coble/coblelaw01.ChartLess", spec := "chartLess", unfollowed := true, recurses := true, named := ["coble/chart.ways"], apart := false, laid := [("coble/chart.ways", laid_coble_chart_ways)] }
def ChartLessSaid : Prop := chartLessRow.holds Tryd.pinned (OpenSpec.ofChange chartLessSpec)

/-- ITS FALSE NEIGHBOUR: 'it returns false'. Refute it at one input. -/
def chartLessWrong : ChangeSpec := { name := "chartLess", fn := fun _ => fun
  | [d1, d2, d3, d4] => { results := [.lit (.bool false)], args := [d1, d2, d3, d4] }
  | _ => none }
def ChartLessWrongFalsely : Prop := chartLessRow.holds Tryd.pinned (OpenSpec.ofChange chartLessWrong)

/-- 'coblelaw01.ChartPassages': WHATEVER THE INPUT: true; the input reads as it did. -/
def chartPassagesSpec : ChangeSpec := { name := "chartPassages", fn := fun _ => fun
  | [d1, d2, d3] => { results := [.lit (.bool true)], args := [d1, d2, d3] }
  | _ => none }
def chartPassagesRow : OpenClaim := { program := "ytcnjhgnlcnmagaadoor", sum := "bb07b56869bafcc5b2ccf649fa0da8a6b4b940c7c3302368137dc189de55fe04", func := "coble/coblelaw01.ChartPassages", spec := "chartPassages", unfollowed := true, recurses := true, named := ["coble/chart.ways"], apart := false, laid := [("coble/chart.ways", laid_coble_chart_ways)] }
def ChartPassagesSaid : Prop := chartPassagesRow.holds Tryd.pinned (OpenSpec.ofChange chartPassagesSpec)

/-- ITS FALSE NEIGHBOUR: 'it returns false'. Refute it at one input. -/
def chartPassagesWrong : ChangeSpec := { name := "chartPassages", fn := fun _ => fun
  | [d1, d2, d3] => { results := [.lit (.bool false)], args := [d1, d2, d3] }
  | _ => none }
def ChartPassagesWrongFalsely : Prop := chartPassagesRow.holds Tryd.pinned (OpenSpec.ofChange chartPassagesWrong)

/-- 'coblelaw01.ChartReturns': WHATEVER THE INPUT: true; the input reads as it did. -/
def chartReturnsSpec : ChangeSpec := { name := "chartReturns", fn := fun _ => fun
  | [d1, d2, d3, d4] => { results := [.lit (.bool true)], args := [d1, d2, d3, d4] }
  | _ => none }
def chartReturnsRow : OpenClaim := { program := "ytcnjhgnlcnmagaadoor", sum := "bb07b56869bafcc5b2ccf649fa0da8a6b4b940c7c3302368137dc189de55fe04", func := "coble/coblelaw01.ChartReturns", spec := "chartReturns", unfollowed := true, recurses := true, named := ["coble/chart.ways"], apart := false, laid := [("coble/chart.ways", laid_coble_chart_ways)] }
def ChartReturnsSaid : Prop := chartReturnsRow.holds Tryd.pinned (OpenSpec.ofChange chartReturnsSpec)

/-- ITS FALSE NEIGHBOUR: 'it returns false'. Refute it at one input. -/
def chartReturnsWrong : ChangeSpec := { name := "chartReturns", fn := fun _ => fun
  | [d1, d2, d3, d4] => { results := [.lit (.bool false)], args := [d1, d2, d3, d4] }
  | _ => none }
def ChartReturnsWrongFalsely : Prop := chartReturnsRow.holds Tryd.pinned (OpenSpec.ofChange chartReturnsWrong)

/-- 'coblelaw09.TowsVeers': WHATEVER THE INPUT: true; the input reads as it did. -/
def towsVeersSpec : ChangeSpec := { name := "towsVeers", fn := fun _ => fun
  | [d1, d2, d3, d4] => { results := [.lit (.bool true)], args := [d1, d2, d3, d4] }
  | _ => none }
def towsVeersRow : OpenClaim := { program := "ytcnjhgnlcnmagaadoor", sum := "bb07b56869bafcc5b2ccf649fa0da8a6b4b940c7c3302368137dc189de55fe04", func := "coble/coblelaw09.TowsVeers", spec := "towsVeers", unfollowed := true, recurses := true, named := ["coble/chart.ways"], apart := false, laid := [("coble/chart.ways", laid_coble_chart_ways)] }
def TowsVeersSaid : Prop := towsVeersRow.holds Tryd.pinned (OpenSpec.ofChange towsVeersSpec)

/-- ITS FALSE NEIGHBOUR: 'it returns false'. Refute it at one input. -/
def towsVeersWrong : ChangeSpec := { name := "towsVeers", fn := fun _ => fun
  | [d1, d2, d3, d4] => { results := [.lit (.bool false)], args := [d1, d2, d3, d4] }
  | _ => none }
def TowsVeersWrongFalsely : Prop := towsVeersRow.holds Tryd.pinned (OpenSpec.ofChange towsVeersWrong)

/-- 'coblelaw09.TowsAnchored': WHATEVER THE INPUT: true; the input reads as it did. -/
def towsAnchoredSpec : ChangeSpec := { name := "towsAnchored", fn := fun _ => fun
  | [d1, d2, d3] => { results := [.lit (.bool true)], args := [d1, d2, d3] }
  | _ => none }
def towsAnchoredRow : OpenClaim := { program := "ytcnjhgnlcnmagaadoor", sum := "bb07b56869bafcc5b2ccf649fa0da8a6b4b940c7c3302368137dc189de55fe04", func := "coble/coblelaw09.TowsAnchored", spec := "towsAnchored", unfollowed := true, recurses := true, named := ["coble/chart.ways"], apart := false, laid := [("coble/chart.ways", laid_coble_chart_ways)] }
def TowsAnchoredSaid : Prop := towsAnchoredRow.holds Tryd.pinned (OpenSpec.ofChange towsAnchoredSpec)

/-- ITS FALSE NEIGHBOUR: 'it returns false'. Refute it at one input. -/
def towsAnchoredWrong : ChangeSpec := { name := "towsAnchored", fn := fun _ => fun
  | [d1, d2, d3] => { results := [.lit (.bool false)], args := [d1, d2, d3] }
  | _ => none }
def TowsAnchoredWrongFalsely : Prop := towsAnchoredRow.holds Tryd.pinned (OpenSpec.ofChange towsAnchoredWrong)

/- THE SECOND FORM. 'bulk': how many values and letters a reading holds, each counted each time it is reached (what is shared counts as often as it is met; a slice's spare places count too). A statement '..UptoSaid' is the law's where the arguments, and the package variables that the reading takes, are together of bulk at most 1048576: NARROWER than '..Said'. Prove '..Said' where nothing that the law and all that it calls make is longer than what came in: it says more and counts as full. Else prove '..UptoSaid'. A law counts once. -/
mutual
def uptoBulk {H : Type} : DataW H → Nat
  | .lit (.string bytes) => bytes.length + 1
  | .lit _ => 1
  | .nil => 1
  | .ptr d => uptoBulk d + 1
  | .slice elems spare => uptoBulkAll elems + uptoBulkAll spare + 1
  | .agg parts => uptoBulkAll parts + 1
  | .iface _ d => uptoBulk d + 1
  | .map entries => uptoBulkEntries entries + 1
  | .held _ => 1
def uptoBulkAll {H : Type} : List (DataW H) → Nat
  | [] => 0
  | d :: r => uptoBulk d + uptoBulkAll r
def uptoBulkEntries {H : Type} : List (Lit × DataW H) → Nat
  | [] => 0
  | x :: r => uptoBulkEntry x + uptoBulkEntries r
def uptoBulkEntry {H : Type} : Lit × DataW H → Nat
  | (.string bytes, d) => bytes.length + uptoBulk d + 1
  | (_, d) => uptoBulk d + 1
 end
def uptoSmall : (H : Type) → List (DataW H) → Bool := fun _ ds => decide (uptoBulkAll ds ≤ 1048576)
def OpenSpec.upto (s : _root_.Go.ChangeSpec) : _root_.Go.OpenSpec := { _root_.Go.OpenSpec.ofChange s with cond := some uptoSmall }

/-- 'coblelaw01.ChartWindows', WHERE WHAT IT READS IS OF BULK AT MOST 1048576: true; the input reads as it did. -/
def chartWindowsUptoRow : OpenClaim := { program := "ytcnjhgnlcnmagaadoor", sum := "bb07b56869bafcc5b2ccf649fa0da8a6b4b940c7c3302368137dc189de55fe04", func := "coble/coblelaw01.ChartWindows", spec := "chartWindows", unfollowed := true, recurses := true, named := ["coble/chart.ways"], apart := false, laid := [("coble/chart.ways", laid_coble_chart_ways)], narrowed := true }
def ChartWindowsUptoSaid : Prop := chartWindowsUptoRow.holds Tryd.pinned (OpenSpec.upto chartWindowsSpec)

/-- 'coblelaw01.ChartLaunched', WHERE WHAT IT READS IS OF BULK AT MOST 1048576: true; the input reads as it did. -/
def chartLaunchedUptoRow : OpenClaim := { program := "ytcnjhgnlcnmagaadoor", sum := "bb07b56869bafcc5b2ccf649fa0da8a6b4b940c7c3302368137dc189de55fe04", func := "coble/coblelaw01.ChartLaunched", spec := "chartLaunched", unfollowed := true, recurses := true, named := ["coble/chart.ways"], apart := false, laid := [("coble/chart.ways", laid_coble_chart_ways)], narrowed := true }
def ChartLaunchedUptoSaid : Prop := chartLaunchedUptoRow.holds Tryd.pinned (OpenSpec.upto chartLaunchedSpec)

/-- 'coblelaw01.ChartCells', WHERE WHAT IT READS IS OF BULK AT MOST 1048576: true; the input reads as it did. -/
def chartCellsUptoRow : OpenClaim := { program := "ytcnjhgnlcnmagaadoor", sum := "bb07b56869bafcc5b2ccf649fa0da8a6b4b940c7c3302368137dc189de55fe04", func := "coble/coblelaw01.ChartCells", spec := "chartCells", unfollowed := true, recurses := true, named := ["coble/chart.ways"], apart := false, laid := [("coble/chart.ways", laid_coble_chart_ways)], narrowed := true }
def ChartCellsUptoSaid : Prop := chartCellsUptoRow.holds Tryd.pinned (OpenSpec.upto chartCellsSpec)

/-- 'coblelaw01.ChartBack', WHERE WHAT IT READS IS OF BULK AT MOST 1048576: true; the input reads as it did. -/
def chartBackUptoRow : OpenClaim := { program := "ytcnjhgnlcnmagaadoor", sum := "bb07b56869bafcc5b2ccf649fa0da8a6b4b940c7c3302368137dc189de55fe04", func := "coble/coblelaw01.ChartBack", spec := "chartBack", unfollowed := true, recurses := true, named := ["coble/chart.ways"], apart := false, laid := [("coble/chart.ways", laid_coble_chart_ways)], narrowed := true }
def ChartBackUptoSaid : Prop := chartBackUptoRow.holds Tryd.pinned (OpenSpec.upto chartBackSpec)

/-- 'coblelaw01.ChartFloats', WHERE WHAT IT READS IS OF BULK AT MOST 1048576: true; the input reads as it did. -/
def chartFloatsUptoRow : OpenClaim := { program := "ytcnjhgnlcnmagaadoor", sum := "bb07b56869bafcc5b2ccf649fa0da8a6b4b940c7c3302368137dc189de55fe04", func := "coble/coblelaw01.ChartFloats", spec := "chartFloats", unfollowed := true, recurses := true, named := ["coble/chart.ways"], apart := false, laid := [("coble/chart.ways", laid_coble_chart_ways)], narrowed := true }
def ChartFloatsUptoSaid : Prop := chartFloatsUptoRow.holds Tryd.pinned (OpenSpec.upto chartFloatsSpec)

/-- 'coblelaw01.ChartAfloat', WHERE WHAT IT READS IS OF BULK AT MOST 1048576: true; the input reads as it did. -/
def chartAfloatUptoRow : OpenClaim := { program := "ytcnjhgnlcnmagaadoor", sum := "bb07b56869bafcc5b2ccf649fa0da8a6b4b940c7c3302368137dc189de55fe04", func := "coble/coblelaw01.ChartAfloat", spec := "chartAfloat", unfollowed := true, recurses := true, named := ["coble/chart.ways"], apart := false, laid := [("coble/chart.ways", laid_coble_chart_ways)], narrowed := true }
def ChartAfloatUptoSaid : Prop := chartAfloatUptoRow.holds Tryd.pinned (OpenSpec.upto chartAfloatSpec)

/-- 'coblelaw01.ChartLess', WHERE WHAT IT READS IS OF BULK AT MOST 1048576: true; the input reads as it did. -/
def chartLessUptoRow : OpenClaim := { program := "ytcnjhgnlcnmagaadoor", sum := "bb07b56869bafcc5b2ccf649fa0da8a6b4b940c7c3302368137dc189de55fe04", func := "coble/coblelaw01.ChartLess", spec := "chartLess", unfollowed := true, recurses := true, named := ["coble/chart.ways"], apart := false, laid := [("coble/chart.ways", laid_coble_chart_ways)], narrowed := true }
def ChartLessUptoSaid : Prop := chartLessUptoRow.holds Tryd.pinned (OpenSpec.upto chartLessSpec)

/-- 'coblelaw01.ChartPassages', WHERE WHAT IT READS IS OF BULK AT MOST 1048576: true; the input reads as it did. -/
def chartPassagesUptoRow : OpenClaim := { program := "ytcnjhgnlcnmagaadoor", sum := "bb07b56869bafcc5b2ccf649fa0da8a6b4b940c7c3302368137dc189de55fe04", func := "coble/coblelaw01.ChartPassages", spec := "chartPassages", unfollowed := true, recurses := true, named := ["coble/chart.ways"], apart := false, laid := [("coble/chart.ways", laid_coble_chart_ways)], narrowed := true }
def ChartPassagesUptoSaid : Prop := chartPassagesUptoRow.holds Tryd.pinned (OpenSpec.upto chartPassagesSpec)

/-- 'coblelaw01.ChartReturns', WHERE WHAT IT READS IS OF BULK AT MOST 1048576: true; the input reads as it did. -/
def chartReturnsUptoRow : OpenClaim := { program := "ytcnjhgnlcnmagaadoor", sum := "bb07b56869bafcc5b2ccf649fa0da8a6b4b940c7c3302368137dc189de55fe04", func := "coble/coblelaw01.ChartReturns", spec := "chartReturns", unfollowed := true, recurses := true, named := ["coble/chart.ways"], apart := false, laid := [("coble/chart.ways", laid_coble_chart_ways)], narrowed := true }
def ChartReturnsUptoSaid : Prop := chartReturnsUptoRow.holds Tryd.pinned (OpenSpec.upto chartReturnsSpec)

/-- 'coblelaw09.TowsVeers', WHERE WHAT IT READS IS OF BULK AT MOST 1048576: true; the input reads as it did. -/
def towsVeersUptoRow : OpenClaim := { program := "ytcnjhgnlcnmagaadoor", sum := "bb07b56869bafcc5b2ccf649fa0da8a6b4b940c7c3302368137dc189de55fe04", func := "coble/coblelaw09.TowsVeers", spec := "towsVeers", unfollowed := true, recurses := true, named := ["coble/chart.ways"], apart := false, laid := [("coble/chart.ways", laid_coble_chart_ways)], narrowed := true }
def TowsVeersUptoSaid : Prop := towsVeersUptoRow.holds Tryd.pinned (OpenSpec.upto towsVeersSpec)

/-- 'coblelaw09.TowsAnchored', WHERE WHAT IT READS IS OF BULK AT MOST 1048576: true; the input reads as it did. -/
def towsAnchoredUptoRow : OpenClaim := { program := "ytcnjhgnlcnmagaadoor", sum := "bb07b56869bafcc5b2ccf649fa0da8a6b4b940c7c3302368137dc189de55fe04", func := "coble/coblelaw09.TowsAnchored", spec := "towsAnchored", unfollowed := true, recurses := true, named := ["coble/chart.ways"], apart := false, laid := [("coble/chart.ways", laid_coble_chart_ways)], narrowed := true }
def TowsAnchoredUptoSaid : Prop := towsAnchoredUptoRow.holds Tryd.pinned (OpenSpec.upto towsAnchoredSpec)

end Rows
end Go.Proofs.YtcnjhgnlcnmagaaDoor
