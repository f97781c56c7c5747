/-
  NARROWER THAN 'FOR EVERY INPUT', by the rows' own cells (each row's printed sentence says how): TopBarred: laid · TopSilent: laid · CoverWhole: laid · CoverMore: laid · CoverKeeps: laid · CoverRotates: laid · CoverTimes: laid · CoverArrives: laid · CoverPrinted: laid · CoverLeast: laid · CoverHours: laid · TopHelped: laid.
  DERIVED. THE GIVEN ROWS OF THIS SEAT. 12 by the template 'for every input the law returns true; each argument reads behind the call as it read before'; 0 by the template 'total and deterministic' (their statements: YtljpknnhimkkjaaGreatDoorTotals.lean).
  GIVEN WITH THE SEED: the statements are not yours to turn. If you find one false, say at which input.
  Laid BY PROGRAM, IN A SANDBOX (cutbox-rows.mjs): the forced cells as the released guide's own fill.sh prints them over the translation 2d22ff3b91ce5d56… (all of the seat's roots in one cut). By AI agents, Wed Nov 11 2026. No macro, syntax, notation, axiom, sorry.
-/
import Derived.Test.YtljpknnhimkkjaaGreatDoorChecked
import GoSem.Claim
import GoSem.ClaimJoined
import GoSem.ClaimMapViews
import Derived.JoinedTies
import Derived.KernelRfl
namespace Go.Proofs.YtljpknnhimkkjaaGreatDoor
/- THE CELL 'sum', in the pinned program and in every row, IS THE sha256 OF THE DUMP (.gsa) THAT YtljpknnhimkkjaaGreatDoorProg.lean LOADS. Nothing in Lean hashes anything: it is a label: what it is worth is what the hold of that sum in a sandbox is worth. -/
noncomputable def Tryz.pinned : Pinned := { name := "ytljpknnhimkkjaagreatdoor", sum := "2d22ff3b91ce5d564d40a85a8f73b5f6624785a89e4cfa1d74ef0fd5b62425cd", checked := Tryz.checked }
namespace Rows
def none {H : Type} : Left H := { results := [], args := [] }

/- WHAT THE LISTED PACKAGE-LEVEL VARIABLES READ AS WHEN THE CALL BEGINS. Each datum BY PROGRAM (the guide's laid-datum.mjs) off the statement by which the dump's own 'gosem.cut.vars' lays the variable. In a bare row this is a premise. The card (YtljpknnhimkkjaaGreatDoorCards.lean) ties it to the program's text. -/
def laid_coble_chart_ways {H : Type} : DataW H := .agg [.agg [.lit (.int .i64 1), .lit (.int .i64 1), .lit (.int .i64 0)], .agg [.lit (.int .i64 0), .lit (.int .i64 1), .lit (.int .i64 1)], .agg [.lit (.int .i64 (-1)), .lit (.int .i64 0), .lit (.int .i64 1)], .agg [.lit (.int .i64 (-1)), .lit (.int .i64 (-1)), .lit (.int .i64 0)], .agg [.lit (.int .i64 (-1)), .lit (.int .i64 0), .lit (.int .i64 (-1))], .agg [.lit (.int .i64 0), .lit (.int .i64 1), .lit (.int .i64 (-1))]]

/-- 'cobletop.TopBarred': WHATEVER THE INPUT: true; the input reads as it did. -/
def topBarredSpec : ChangeSpec := { name := "topBarred", fn := fun _ => fun
  | [d1, d2] => { results := [.lit (.bool true)], args := [d1, d2] }
  | _ => none }
def topBarredRow : OpenClaim := { program := "ytljpknnhimkkjaagreatdoor", sum := "2d22ff3b91ce5d564d40a85a8f73b5f6624785a89e4cfa1d74ef0fd5b62425cd", func := "coble/cobletop.TopBarred", spec := "topBarred", unfollowed := true, recurses := true, named := ["coble/chart.ways"], apart := false, laid := [("coble/chart.ways", laid_coble_chart_ways)] }
def TopBarredSaid : Prop := topBarredRow.holds Tryz.pinned (OpenSpec.ofChange topBarredSpec)

/-- ITS FALSE NEIGHBOUR: 'it returns false'. Refute it at one input. -/
def topBarredWrong : ChangeSpec := { name := "topBarred", fn := fun _ => fun
  | [d1, d2] => { results := [.lit (.bool false)], args := [d1, d2] }
  | _ => none }
def TopBarredWrongFalsely : Prop := topBarredRow.holds Tryz.pinned (OpenSpec.ofChange topBarredWrong)

/-- 'cobletop.TopSilent': WHATEVER THE INPUT: true; the input reads as it did. -/
def topSilentSpec : ChangeSpec := { name := "topSilent", fn := fun _ => fun
  | [d1, d2] => { results := [.lit (.bool true)], args := [d1, d2] }
  | _ => none }
def topSilentRow : OpenClaim := { program := "ytljpknnhimkkjaagreatdoor", sum := "2d22ff3b91ce5d564d40a85a8f73b5f6624785a89e4cfa1d74ef0fd5b62425cd", func := "coble/cobletop.TopSilent", spec := "topSilent", unfollowed := true, recurses := true, named := ["coble/chart.ways"], apart := false, laid := [("coble/chart.ways", laid_coble_chart_ways)] }
def TopSilentSaid : Prop := topSilentRow.holds Tryz.pinned (OpenSpec.ofChange topSilentSpec)

/-- ITS FALSE NEIGHBOUR: 'it returns false'. Refute it at one input. -/
def topSilentWrong : ChangeSpec := { name := "topSilent", fn := fun _ => fun
  | [d1, d2] => { results := [.lit (.bool false)], args := [d1, d2] }
  | _ => none }
def TopSilentWrongFalsely : Prop := topSilentRow.holds Tryz.pinned (OpenSpec.ofChange topSilentWrong)

/-- 'coblelaw08.CoverWhole': WHATEVER THE INPUT: true; the input reads as it did. -/
def coverWholeSpec : ChangeSpec := { name := "coverWhole", fn := fun _ => fun
  | [d1, d2] => { results := [.lit (.bool true)], args := [d1, d2] }
  | _ => none }
def coverWholeRow : OpenClaim := { program := "ytljpknnhimkkjaagreatdoor", sum := "2d22ff3b91ce5d564d40a85a8f73b5f6624785a89e4cfa1d74ef0fd5b62425cd", func := "coble/coblelaw08.CoverWhole", spec := "coverWhole", unfollowed := true, recurses := true, named := ["coble/chart.ways"], apart := false, laid := [("coble/chart.ways", laid_coble_chart_ways)] }
def CoverWholeSaid : Prop := coverWholeRow.holds Tryz.pinned (OpenSpec.ofChange coverWholeSpec)

/-- ITS FALSE NEIGHBOUR: 'it returns false'. Refute it at one input. -/
def coverWholeWrong : ChangeSpec := { name := "coverWhole", fn := fun _ => fun
  | [d1, d2] => { results := [.lit (.bool false)], args := [d1, d2] }
  | _ => none }
def CoverWholeWrongFalsely : Prop := coverWholeRow.holds Tryz.pinned (OpenSpec.ofChange coverWholeWrong)

/-- 'coblelaw08.CoverMore': WHATEVER THE INPUT: true; the input reads as it did. -/
def coverMoreSpec : ChangeSpec := { name := "coverMore", fn := fun _ => fun
  | [d1, d2] => { results := [.lit (.bool true)], args := [d1, d2] }
  | _ => none }
def coverMoreRow : OpenClaim := { program := "ytljpknnhimkkjaagreatdoor", sum := "2d22ff3b91ce5d564d40a85a8f73b5f6624785a89e4cfa1d74ef0fd5b62425cd", func := "coble/coblelaw08.CoverMore", spec := "coverMore", unfollowed := true, recurses := true, named := ["coble/chart.ways"], apart := false, laid := [("coble/chart.ways", laid_coble_chart_ways)] }
def CoverMoreSaid : Prop := coverMoreRow.holds Tryz.pinned (OpenSpec.ofChange coverMoreSpec)

/-- ITS FALSE NEIGHBOUR: 'it returns false'. Refute it at one input. -/
def coverMoreWrong : ChangeSpec := { name := "coverMore", fn := fun _ => fun
  | [d1, d2] => { results := [.lit (.bool false)], args := [d1, d2] }
  | _ => none }
def CoverMoreWrongFalsely : Prop := coverMoreRow.holds Tryz.pinned (OpenSpec.ofChange coverMoreWrong)

/-- 'coblelaw08.CoverKeeps': WHATEVER THE INPUT: true; the input reads as it did. -/
def coverKeepsSpec : ChangeSpec := { name := "coverKeeps", fn := fun _ => fun
  | [d1, d2] => { results := [.lit (.bool true)], args := [d1, d2] }
  | _ => none }
def coverKeepsRow : OpenClaim := { program := "ytljpknnhimkkjaagreatdoor", sum := "2d22ff3b91ce5d564d40a85a8f73b5f6624785a89e4cfa1d74ef0fd5b62425cd", func := "coble/coblelaw08.CoverKeeps", spec := "coverKeeps", unfollowed := true, recurses := true, named := ["coble/chart.ways"], apart := false, laid := [("coble/chart.ways", laid_coble_chart_ways)] }
def CoverKeepsSaid : Prop := coverKeepsRow.holds Tryz.pinned (OpenSpec.ofChange coverKeepsSpec)

/-- ITS FALSE NEIGHBOUR: 'it returns false'. Refute it at one input. -/
def coverKeepsWrong : ChangeSpec := { name := "coverKeeps", fn := fun _ => fun
  | [d1, d2] => { results := [.lit (.bool false)], args := [d1, d2] }
  | _ => none }
def CoverKeepsWrongFalsely : Prop := coverKeepsRow.holds Tryz.pinned (OpenSpec.ofChange coverKeepsWrong)

/-- 'coblelaw08.CoverRotates': WHATEVER THE INPUT: true; the input reads as it did. -/
def coverRotatesSpec : ChangeSpec := { name := "coverRotates", fn := fun _ => fun
  | [d1, d2] => { results := [.lit (.bool true)], args := [d1, d2] }
  | _ => none }
def coverRotatesRow : OpenClaim := { program := "ytljpknnhimkkjaagreatdoor", sum := "2d22ff3b91ce5d564d40a85a8f73b5f6624785a89e4cfa1d74ef0fd5b62425cd", func := "coble/coblelaw08.CoverRotates", spec := "coverRotates", unfollowed := true, recurses := true, named := ["coble/chart.ways"], apart := false, laid := [("coble/chart.ways", laid_coble_chart_ways)] }
def CoverRotatesSaid : Prop := coverRotatesRow.holds Tryz.pinned (OpenSpec.ofChange coverRotatesSpec)

/-- ITS FALSE NEIGHBOUR: 'it returns false'. Refute it at one input. -/
def coverRotatesWrong : ChangeSpec := { name := "coverRotates", fn := fun _ => fun
  | [d1, d2] => { results := [.lit (.bool false)], args := [d1, d2] }
  | _ => none }
def CoverRotatesWrongFalsely : Prop := coverRotatesRow.holds Tryz.pinned (OpenSpec.ofChange coverRotatesWrong)

/-- 'coblelaw08.CoverTimes': WHATEVER THE INPUT: true; the input reads as it did. -/
def coverTimesSpec : ChangeSpec := { name := "coverTimes", fn := fun _ => fun
  | [d1, d2] => { results := [.lit (.bool true)], args := [d1, d2] }
  | _ => none }
def coverTimesRow : OpenClaim := { program := "ytljpknnhimkkjaagreatdoor", sum := "2d22ff3b91ce5d564d40a85a8f73b5f6624785a89e4cfa1d74ef0fd5b62425cd", func := "coble/coblelaw08.CoverTimes", spec := "coverTimes", unfollowed := true, recurses := true, named := ["coble/chart.ways"], apart := false, laid := [("coble/chart.ways", laid_coble_chart_ways)] }
def CoverTimesSaid : Prop := coverTimesRow.holds Tryz.pinned (OpenSpec.ofChange coverTimesSpec)

/-- ITS FALSE NEIGHBOUR: 'it returns false'. Refute it at one input. -/
def coverTimesWrong : ChangeSpec := { name := "coverTimes", fn := fun _ => fun
  | [d1, d2] => { results := [.lit (.bool false)], args := [d1, d2] }
  | _ => none }
def CoverTimesWrongFalsely : Prop := coverTimesRow.holds Tryz.pinned (OpenSpec.ofChange coverTimesWrong)

/-- 'coblelaw08.CoverArrives': WHATEVER THE INPUT: true; the input reads as it did. -/
def coverArrivesSpec : ChangeSpec := { name := "coverArrives", fn := fun _ => fun
  | [d1, d2] => { results := [.lit (.bool true)], args := [d1, d2] }
  | _ => none }
def coverArrivesRow : OpenClaim := { program := "ytljpknnhimkkjaagreatdoor", sum := "2d22ff3b91ce5d564d40a85a8f73b5f6624785a89e4cfa1d74ef0fd5b62425cd", func := "coble/coblelaw08.CoverArrives", spec := "coverArrives", unfollowed := true, recurses := true, named := ["coble/chart.ways"], apart := false, laid := [("coble/chart.ways", laid_coble_chart_ways)] }
def CoverArrivesSaid : Prop := coverArrivesRow.holds Tryz.pinned (OpenSpec.ofChange coverArrivesSpec)

/-- ITS FALSE NEIGHBOUR: 'it returns false'. Refute it at one input. -/
def coverArrivesWrong : ChangeSpec := { name := "coverArrives", fn := fun _ => fun
  | [d1, d2] => { results := [.lit (.bool false)], args := [d1, d2] }
  | _ => none }
def CoverArrivesWrongFalsely : Prop := coverArrivesRow.holds Tryz.pinned (OpenSpec.ofChange coverArrivesWrong)

/-- 'coblelaw08.CoverPrinted': WHATEVER THE INPUT: true; the input reads as it did. -/
def coverPrintedSpec : ChangeSpec := { name := "coverPrinted", fn := fun _ => fun
  | [d1, d2] => { results := [.lit (.bool true)], args := [d1, d2] }
  | _ => none }
def coverPrintedRow : OpenClaim := { program := "ytljpknnhimkkjaagreatdoor", sum := "2d22ff3b91ce5d564d40a85a8f73b5f6624785a89e4cfa1d74ef0fd5b62425cd", func := "coble/coblelaw08.CoverPrinted", spec := "coverPrinted", unfollowed := true, recurses := true, named := ["coble/chart.ways"], apart := false, laid := [("coble/chart.ways", laid_coble_chart_ways)] }
def CoverPrintedSaid : Prop := coverPrintedRow.holds Tryz.pinned (OpenSpec.ofChange coverPrintedSpec)

/-- ITS FALSE NEIGHBOUR: 'it returns false'. Refute it at one input. -/
def coverPrintedWrong : ChangeSpec := { name := "coverPrinted", fn := fun _ => fun
  | [d1, d2] => { results := [.lit (.bool false)], args := [d1, d2] }
  | _ => none }
def CoverPrintedWrongFalsely : Prop := coverPrintedRow.holds Tryz.pinned (OpenSpec.ofChange coverPrintedWrong)

/-- 'coblelaw08.CoverLeast': WHATEVER THE INPUT: true; the input reads as it did. -/
def coverLeastSpec : ChangeSpec := { name := "coverLeast", fn := fun _ => fun
  | [d1, d2] => { results := [.lit (.bool true)], args := [d1, d2] }
  | _ => none }
def coverLeastRow : OpenClaim := { program := "ytljpknnhimkkjaagreatdoor", sum := "2d22ff3b91ce5d564d40a85a8f73b5f6624785a89e4cfa1d74ef0fd5b62425cd", func := "coble/coblelaw08.CoverLeast", spec := "coverLeast", unfollowed := true, recurses := true, named := ["coble/chart.ways"], apart := false, laid := [("coble/chart.ways", laid_coble_chart_ways)] }
def CoverLeastSaid : Prop := coverLeastRow.holds Tryz.pinned (OpenSpec.ofChange coverLeastSpec)

/-- ITS FALSE NEIGHBOUR: 'it returns false'. Refute it at one input. -/
def coverLeastWrong : ChangeSpec := { name := "coverLeast", fn := fun _ => fun
  | [d1, d2] => { results := [.lit (.bool false)], args := [d1, d2] }
  | _ => none }
def CoverLeastWrongFalsely : Prop := coverLeastRow.holds Tryz.pinned (OpenSpec.ofChange coverLeastWrong)

/-- 'coblelaw08.CoverHours': WHATEVER THE INPUT: true; the input reads as it did. -/
def coverHoursSpec : ChangeSpec := { name := "coverHours", fn := fun _ => fun
  | [d1, d2] => { results := [.lit (.bool true)], args := [d1, d2] }
  | _ => none }
def coverHoursRow : OpenClaim := { program := "ytljpknnhimkkjaagreatdoor", sum := "2d22ff3b91ce5d564d40a85a8f73b5f6624785a89e4cfa1d74ef0fd5b62425cd", func := "coble/coblelaw08.CoverHours", spec := "coverHours", unfollowed := true, recurses := true, named := ["coble/chart.ways"], apart := false, laid := [("coble/chart.ways", laid_coble_chart_ways)] }
def CoverHoursSaid : Prop := coverHoursRow.holds Tryz.pinned (OpenSpec.ofChange coverHoursSpec)

/-- ITS FALSE NEIGHBOUR: 'it returns false'. Refute it at one input. -/
def coverHoursWrong : ChangeSpec := { name := "coverHours", fn := fun _ => fun
  | [d1, d2] => { results := [.lit (.bool false)], args := [d1, d2] }
  | _ => none }
def CoverHoursWrongFalsely : Prop := coverHoursRow.holds Tryz.pinned (OpenSpec.ofChange coverHoursWrong)

/-- 'cobletop.TopHelped': WHATEVER THE INPUT: true; the input reads as it did. -/
def topHelpedSpec : ChangeSpec := { name := "topHelped", fn := fun _ => fun
  | [d1, d2, d3] => { results := [.lit (.bool true)], args := [d1, d2, d3] }
  | _ => none }
def topHelpedRow : OpenClaim := { program := "ytljpknnhimkkjaagreatdoor", sum := "2d22ff3b91ce5d564d40a85a8f73b5f6624785a89e4cfa1d74ef0fd5b62425cd", func := "coble/cobletop.TopHelped", spec := "topHelped", unfollowed := true, recurses := true, named := ["coble/chart.ways"], apart := false, laid := [("coble/chart.ways", laid_coble_chart_ways)] }
def TopHelpedSaid : Prop := topHelpedRow.holds Tryz.pinned (OpenSpec.ofChange topHelpedSpec)

/-- ITS FALSE NEIGHBOUR: 'it returns false'. Refute it at one input. -/
def topHelpedWrong : ChangeSpec := { name := "topHelped", fn := fun _ => fun
  | [d1, d2, d3] => { results := [.lit (.bool false)], args := [d1, d2, d3] }
  | _ => none }
def TopHelpedWrongFalsely : Prop := topHelpedRow.holds Tryz.pinned (OpenSpec.ofChange topHelpedWrong)

/- THE SECOND FORM. 'bulk': how many values and letters a reading holds, each counted each time it is reached (what is shared counts as often as it is met; a slice's spare places count too). A statement '..UptoSaid' is the law's where the arguments, and the package variables that the reading takes, are together of bulk at most 1048576: NARROWER than '..Said'. Prove '..Said' where nothing that the law and all that it calls make is longer than what came in: it says more and counts as full. Else prove '..UptoSaid'. A law counts once. -/
mutual
def uptoBulk {H : Type} : DataW H → Nat
  | .lit (.string bytes) => bytes.length + 1
  | .lit _ => 1
  | .nil => 1
  | .ptr d => uptoBulk d + 1
  | .slice elems spare => uptoBulkAll elems + uptoBulkAll spare + 1
  | .agg parts => uptoBulkAll parts + 1
  | .iface _ d => uptoBulk d + 1
  | .map entries => uptoBulkEntries entries + 1
  | .held _ => 1
def uptoBulkAll {H : Type} : List (DataW H) → Nat
  | [] => 0
  | d :: r => uptoBulk d + uptoBulkAll r
def uptoBulkEntries {H : Type} : List (Lit × DataW H) → Nat
  | [] => 0
  | x :: r => uptoBulkEntry x + uptoBulkEntries r
def uptoBulkEntry {H : Type} : Lit × DataW H → Nat
  | (.string bytes, d) => bytes.length + uptoBulk d + 1
  | (_, d) => uptoBulk d + 1
 end
def uptoSmall : (H : Type) → List (DataW H) → Bool := fun _ ds => decide (uptoBulkAll ds ≤ 1048576)
def OpenSpec.upto (s : _root_.Go.ChangeSpec) : _root_.Go.OpenSpec := { _root_.Go.OpenSpec.ofChange s with cond := some uptoSmall }

/-- 'cobletop.TopBarred', WHERE WHAT IT READS IS OF BULK AT MOST 1048576: true; the input reads as it did. -/
def topBarredUptoRow : OpenClaim := { program := "ytljpknnhimkkjaagreatdoor", sum := "2d22ff3b91ce5d564d40a85a8f73b5f6624785a89e4cfa1d74ef0fd5b62425cd", func := "coble/cobletop.TopBarred", spec := "topBarred", unfollowed := true, recurses := true, named := ["coble/chart.ways"], apart := false, laid := [("coble/chart.ways", laid_coble_chart_ways)], narrowed := true }
def TopBarredUptoSaid : Prop := topBarredUptoRow.holds Tryz.pinned (OpenSpec.upto topBarredSpec)

/-- 'cobletop.TopSilent', WHERE WHAT IT READS IS OF BULK AT MOST 1048576: true; the input reads as it did. -/
def topSilentUptoRow : OpenClaim := { program := "ytljpknnhimkkjaagreatdoor", sum := "2d22ff3b91ce5d564d40a85a8f73b5f6624785a89e4cfa1d74ef0fd5b62425cd", func := "coble/cobletop.TopSilent", spec := "topSilent", unfollowed := true, recurses := true, named := ["coble/chart.ways"], apart := false, laid := [("coble/chart.ways", laid_coble_chart_ways)], narrowed := true }
def TopSilentUptoSaid : Prop := topSilentUptoRow.holds Tryz.pinned (OpenSpec.upto topSilentSpec)

/-- 'coblelaw08.CoverWhole', WHERE WHAT IT READS IS OF BULK AT MOST 1048576: true; the input reads as it did. -/
def coverWholeUptoRow : OpenClaim := { program := "ytljpknnhimkkjaagreatdoor", sum := "2d22ff3b91ce5d564d40a85a8f73b5f6624785a89e4cfa1d74ef0fd5b62425cd", func := "coble/coblelaw08.CoverWhole", spec := "coverWhole", unfollowed := true, recurses := true, named := ["coble/chart.ways"], apart := false, laid := [("coble/chart.ways", laid_coble_chart_ways)], narrowed := true }
def CoverWholeUptoSaid : Prop := coverWholeUptoRow.holds Tryz.pinned (OpenSpec.upto coverWholeSpec)

/-- 'coblelaw08.CoverMore', WHERE WHAT IT READS IS OF BULK AT MOST 1048576: true; the input reads as it did. -/
def coverMoreUptoRow : OpenClaim := { program := "ytljpknnhimkkjaagreatdoor", sum := "2d22ff3b91ce5d564d40a85a8f73b5f6624785a89e4cfa1d74ef0fd5b62425cd", func := "coble/coblelaw08.CoverMore", spec := "coverMore", unfollowed := true, recurses := true, named := ["coble/chart.ways"], apart := false, laid := [("coble/chart.ways", laid_coble_chart_ways)], narrowed := true }
def CoverMoreUptoSaid : Prop := coverMoreUptoRow.holds Tryz.pinned (OpenSpec.upto coverMoreSpec)

/-- 'coblelaw08.CoverKeeps', WHERE WHAT IT READS IS OF BULK AT MOST 1048576: true; the input reads as it did. -/
def coverKeepsUptoRow : OpenClaim := { program := "ytljpknnhimkkjaagreatdoor", sum := "2d22ff3b91ce5d564d40a85a8f73b5f6624785a89e4cfa1d74ef0fd5b62425cd", func := "coble/coblelaw08.CoverKeeps", spec := "coverKeeps", unfollowed := true, recurses := true, named := ["coble/chart.ways"], apart := false, laid := [("coble/chart.ways", laid_coble_chart_ways)], narrowed := true }
def CoverKeepsUptoSaid : Prop := coverKeepsUptoRow.holds Tryz.pinned (OpenSpec.upto coverKeepsSpec)

/-- 'coblelaw08.CoverRotates', WHERE WHAT IT READS IS OF BULK AT MOST 1048576: true; the input reads as it did. -/
def coverRotatesUptoRow : OpenClaim := { program := "ytljpknnhimkkjaagreatdoor", sum := "2d22ff3b91ce5d564d40a85a8f73b5f6624785a89e4cfa1d74ef0fd5b62425cd", func := "coble/coblelaw08.CoverRotates", spec := "coverRotates", unfollowed := true, recurses := true, named := ["coble/chart.ways"], apart := false, laid := [("coble/chart.ways", laid_coble_chart_ways)], narrowed := true }
def CoverRotatesUptoSaid : Prop := coverRotatesUptoRow.holds Tryz.pinned (OpenSpec.upto coverRotatesSpec)

/-- 'coblelaw08.CoverTimes', WHERE WHAT IT READS IS OF BULK AT MOST 1048576: true; the input reads as it did. -/
def coverTimesUptoRow : OpenClaim := { program := "ytljpknnhimkkjaagreatdoor", sum := "2d22ff3b91ce5d564d40a85a8f73b5f6624785a89e4cfa1d74ef0fd5b62425cd", func := "coble/coblelaw08.CoverTimes", spec := "coverTimes", unfollowed := true, recurses := true, named := ["coble/chart.ways"], apart := false, laid := [("coble/chart.ways", laid_coble_chart_ways)], narrowed := true }
def CoverTimesUptoSaid : Prop := coverTimesUptoRow.holds Tryz.pinned (OpenSpec.upto coverTimesSpec)

/-- 'coblelaw08.CoverArrives', WHERE WHAT IT READS IS OF BULK AT MOST 1048576: true; the input reads as it did. -/
def coverArrivesUptoRow : OpenClaim := { program := "ytljpknnhimkkjaagreatdoor", sum := "2d22ff3b91ce5d564d40a85a8f73b5f6624785a89e4cfa1d74ef0fd5b62425cd", func := "coble/coblelaw08.CoverArrives", spec := "coverArrives", unfollowed := true, recurses := true, named := ["coble/chart.ways"], apart := false, laid := [("coble/chart.ways", laid_coble_chart_ways)], narrowed := true }
def CoverArrivesUptoSaid : Prop := coverArrivesUptoRow.holds Tryz.pinned (OpenSpec.upto coverArrivesSpec)

/-- 'coblelaw08.CoverPrinted', WHERE WHAT IT READS IS OF BULK AT MOST 1048576: true; the input reads as it did. -/
def coverPrintedUptoRow : OpenClaim := { program := "ytljpknnhimkkjaagreatdoor", sum := "2d22ff3b91ce5d564d40a85a8f73b5f6624785a89e4cfa1d74ef0fd5b62425cd", func := "coble/coblelaw08.CoverPrinted", spec := "coverPrinted", unfollowed := true, recurses := true, named := ["coble/chart.ways"], apart := false, laid := [("coble/chart.ways", laid_coble_chart_ways)], narrowed := true }
def CoverPrintedUptoSaid : Prop := coverPrintedUptoRow.holds Tryz.pinned (OpenSpec.upto coverPrintedSpec)

/-- 'coblelaw08.CoverLeast', WHERE WHAT IT READS IS OF BULK AT MOST 1048576: true; the input reads as it did. -/
def coverLeastUptoRow : OpenClaim := { program := "ytljpknnhimkkjaagreatdoor", sum := "2d22ff3b91ce5d564d40a85a8f73b5f6624785a89e4cfa1d74ef0fd5b62425cd", func := "coble/coblelaw08.CoverLeast", spec := "coverLeast", unfollowed := true, recurses := true, named := ["coble/chart.ways"], apart := false, laid := [("coble/chart.ways", laid_coble_chart_ways)], narrowed := true }
def CoverLeastUptoSaid : Prop := coverLeastUptoRow.holds Tryz.pinned (OpenSpec.upto coverLeastSpec)

/-- 'coblelaw08.CoverHours', WHERE WHAT IT READS IS OF BULK AT MOST 1048576: true; the input reads as it did. -/
def coverHoursUptoRow : OpenClaim := { program := "ytljpknnhimkkjaagreatdoor", sum := "2d22ff3b91ce5d564d40a85a8f73b5f6624785a89e4cfa1d74ef0fd5b62425cd", func := "coble/coblelaw08.CoverHours", spec := "coverHours", unfollowed := true, recurses := true, named := ["coble/chart.ways"], apart := false, laid := [("coble/chart.ways", laid_coble_chart_ways)], narrowed := true }
def CoverHoursUptoSaid : Prop := coverHoursUptoRow.holds Tryz.pinned (OpenSpec.upto coverHoursSpec)

/-- 'cobletop.TopHelped', WHERE WHAT IT READS IS OF BULK AT MOST 1048576: true; the input reads as it did. -/
def topHelpedUptoRow : OpenClaim := { program := "ytljpknnhimkkjaagreatdoor", sum := "2d22ff3b91ce5d564d40a85a8f73b5f6624785a89e4cfa1d74ef0fd5b62425cd", func := "coble/cobletop.TopHelped", spec := "topHelped", unfollowed := true, recurses := true, named := ["coble/chart.ways"], apart := false, laid := [("coble/chart.ways", laid_coble_chart_ways)], narrowed := true }
def TopHelpedUptoSaid : Prop := topHelpedUptoRow.holds Tryz.pinned (OpenSpec.upto topHelpedSpec)

end Rows
end Go.Proofs.YtljpknnhimkkjaaGreatDoor
