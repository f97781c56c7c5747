/-
  NARROWER THAN 'FOR EVERY INPUT', by the rows' own cells (each row's printed sentence says how): LaunchDecides: laid · LaunchRounds: laid · LaunchComes: laid · LaunchCheapest: laid · LaunchEasier: laid · LaunchOpens: laid · LaunchBoards: laid · LaunchSeats: laid · LaunchRights: laid · LaunchUpright: laid · LaunchReaches: laid.
  DERIVED. THE GIVEN ROWS OF THIS SEAT. 11 by the template 'for every input the law returns true; each argument reads behind the call as it read before'; 0 by the template 'total and deterministic' (their statements: YtcnlbnccbnapbaaDoorTotals.lean).
  GIVEN WITH THE SEED: the statements are not yours to turn. If you find one false, say at which input.
  Laid BY PROGRAM, IN A SANDBOX (cutbox-rows.mjs): the forced cells as the released guide's own fill.sh prints them over the translation 05dd55dd623f85fb… (all of the seat's roots in one cut). By AI agents, Wed Nov 11 2026. No macro, syntax, notation, axiom, sorry.
-/
import Derived.Test.YtcnlbnccbnapbaaDoorChecked
import GoSem.Claim
import GoSem.ClaimJoined
import GoSem.ClaimMapViews
import Derived.JoinedTies
import Derived.KernelRfl
namespace Go.Proofs.YtcnlbnccbnapbaaDoor
/- THE CELL 'sum', in the pinned program and in every row, IS THE sha256 OF THE DUMP (.gsa) THAT YtcnlbnccbnapbaaDoorProg.lean LOADS. Nothing in Lean hashes anything: it is a label: what it is worth is what the hold of that sum in a sandbox is worth. -/
noncomputable def Tryd.pinned : Pinned := { name := "ytcnlbnccbnapbaadoor", sum := "05dd55dd623f85fbb0612db51383d83d968c531002b2612d10531cdd38a7892c", checked := Tryd.checked }
namespace Rows
def none {H : Type} : Left H := { results := [], args := [] }

/- WHAT THE LISTED PACKAGE-LEVEL VARIABLES READ AS WHEN THE CALL BEGINS. Each datum BY PROGRAM (the guide's laid-datum.mjs) off the statement by which the dump's own 'gosem.cut.vars' lays the variable. In a bare row this is a premise. The card (YtcnlbnccbnapbaaDoorCards.lean) ties it to the program's text. -/
def laid_coble_chart_ways {H : Type} : DataW H := .agg [.agg [.lit (.int .i64 1), .lit (.int .i64 1), .lit (.int .i64 0)], .agg [.lit (.int .i64 0), .lit (.int .i64 1), .lit (.int .i64 1)], .agg [.lit (.int .i64 (-1)), .lit (.int .i64 0), .lit (.int .i64 1)], .agg [.lit (.int .i64 (-1)), .lit (.int .i64 (-1)), .lit (.int .i64 0)], .agg [.lit (.int .i64 (-1)), .lit (.int .i64 0), .lit (.int .i64 (-1))], .agg [.lit (.int .i64 0), .lit (.int .i64 1), .lit (.int .i64 (-1))]]

/-- 'coblelaw05.LaunchDecides': WHATEVER THE INPUT: true; the input reads as it did. -/
def launchDecidesSpec : ChangeSpec := { name := "launchDecides", fn := fun _ => fun
  | [d1, d2, d3] => { results := [.lit (.bool true)], args := [d1, d2, d3] }
  | _ => none }
def launchDecidesRow : OpenClaim := { program := "ytcnlbnccbnapbaadoor", sum := "05dd55dd623f85fbb0612db51383d83d968c531002b2612d10531cdd38a7892c", func := "coble/coblelaw05.LaunchDecides", spec := "launchDecides", unfollowed := true, recurses := true, named := ["coble/chart.ways"], apart := false, laid := [("coble/chart.ways", laid_coble_chart_ways)] }
def LaunchDecidesSaid : Prop := launchDecidesRow.holds Tryd.pinned (OpenSpec.ofChange launchDecidesSpec)

/-- ITS FALSE NEIGHBOUR: 'it returns false'. Refute it at one input. -/
def launchDecidesWrong : ChangeSpec := { name := "launchDecides", fn := fun _ => fun
  | [d1, d2, d3] => { results := [.lit (.bool false)], args := [d1, d2, d3] }
  | _ => none }
def LaunchDecidesWrongFalsely : Prop := launchDecidesRow.holds Tryd.pinned (OpenSpec.ofChange launchDecidesWrong)

/-- 'coblelaw05.LaunchRounds': WHATEVER THE INPUT: true; the input reads as it did. -/
def launchRoundsSpec : ChangeSpec := { name := "launchRounds", fn := fun _ => fun
  | [d1, d2, d3] => { results := [.lit (.bool true)], args := [d1, d2, d3] }
  | _ => none }
def launchRoundsRow : OpenClaim := { program := "ytcnlbnccbnapbaadoor", sum := "05dd55dd623f85fbb0612db51383d83d968c531002b2612d10531cdd38a7892c", func := "coble/coblelaw05.LaunchRounds", spec := "launchRounds", unfollowed := true, recurses := true, named := ["coble/chart.ways"], apart := false, laid := [("coble/chart.ways", laid_coble_chart_ways)] }
def LaunchRoundsSaid : Prop := launchRoundsRow.holds Tryd.pinned (OpenSpec.ofChange launchRoundsSpec)

/-- ITS FALSE NEIGHBOUR: 'it returns false'. Refute it at one input. -/
def launchRoundsWrong : ChangeSpec := { name := "launchRounds", fn := fun _ => fun
  | [d1, d2, d3] => { results := [.lit (.bool false)], args := [d1, d2, d3] }
  | _ => none }
def LaunchRoundsWrongFalsely : Prop := launchRoundsRow.holds Tryd.pinned (OpenSpec.ofChange launchRoundsWrong)

/-- 'coblelaw05.LaunchComes': WHATEVER THE INPUT: true; the input reads as it did. -/
def launchComesSpec : ChangeSpec := { name := "launchComes", fn := fun _ => fun
  | [d1, d2, d3, d4] => { results := [.lit (.bool true)], args := [d1, d2, d3, d4] }
  | _ => none }
def launchComesRow : OpenClaim := { program := "ytcnlbnccbnapbaadoor", sum := "05dd55dd623f85fbb0612db51383d83d968c531002b2612d10531cdd38a7892c", func := "coble/coblelaw05.LaunchComes", spec := "launchComes", unfollowed := true, recurses := true, named := ["coble/chart.ways"], apart := false, laid := [("coble/chart.ways", laid_coble_chart_ways)] }
def LaunchComesSaid : Prop := launchComesRow.holds Tryd.pinned (OpenSpec.ofChange launchComesSpec)

/-- ITS FALSE NEIGHBOUR: 'it returns false'. Refute it at one input. -/
def launchComesWrong : ChangeSpec := { name := "launchComes", fn := fun _ => fun
  | [d1, d2, d3, d4] => { results := [.lit (.bool false)], args := [d1, d2, d3, d4] }
  | _ => none }
def LaunchComesWrongFalsely : Prop := launchComesRow.holds Tryd.pinned (OpenSpec.ofChange launchComesWrong)

/-- 'coblelaw05.LaunchCheapest': WHATEVER THE INPUT: true; the input reads as it did. -/
def launchCheapestSpec : ChangeSpec := { name := "launchCheapest", fn := fun _ => fun
  | [d1, d2, d3, d4] => { results := [.lit (.bool true)], args := [d1, d2, d3, d4] }
  | _ => none }
def launchCheapestRow : OpenClaim := { program := "ytcnlbnccbnapbaadoor", sum := "05dd55dd623f85fbb0612db51383d83d968c531002b2612d10531cdd38a7892c", func := "coble/coblelaw05.LaunchCheapest", spec := "launchCheapest", unfollowed := true, recurses := true, named := ["coble/chart.ways"], apart := false, laid := [("coble/chart.ways", laid_coble_chart_ways)] }
def LaunchCheapestSaid : Prop := launchCheapestRow.holds Tryd.pinned (OpenSpec.ofChange launchCheapestSpec)

/-- ITS FALSE NEIGHBOUR: 'it returns false'. Refute it at one input. -/
def launchCheapestWrong : ChangeSpec := { name := "launchCheapest", fn := fun _ => fun
  | [d1, d2, d3, d4] => { results := [.lit (.bool false)], args := [d1, d2, d3, d4] }
  | _ => none }
def LaunchCheapestWrongFalsely : Prop := launchCheapestRow.holds Tryd.pinned (OpenSpec.ofChange launchCheapestWrong)

/-- 'coblelaw05.LaunchEasier': WHATEVER THE INPUT: true; the input reads as it did. -/
def launchEasierSpec : ChangeSpec := { name := "launchEasier", fn := fun _ => fun
  | [d1, d2, d3, d4] => { results := [.lit (.bool true)], args := [d1, d2, d3, d4] }
  | _ => none }
def launchEasierRow : OpenClaim := { program := "ytcnlbnccbnapbaadoor", sum := "05dd55dd623f85fbb0612db51383d83d968c531002b2612d10531cdd38a7892c", func := "coble/coblelaw05.LaunchEasier", spec := "launchEasier", unfollowed := true, recurses := true, named := ["coble/chart.ways"], apart := false, laid := [("coble/chart.ways", laid_coble_chart_ways)] }
def LaunchEasierSaid : Prop := launchEasierRow.holds Tryd.pinned (OpenSpec.ofChange launchEasierSpec)

/-- ITS FALSE NEIGHBOUR: 'it returns false'. Refute it at one input. -/
def launchEasierWrong : ChangeSpec := { name := "launchEasier", fn := fun _ => fun
  | [d1, d2, d3, d4] => { results := [.lit (.bool false)], args := [d1, d2, d3, d4] }
  | _ => none }
def LaunchEasierWrongFalsely : Prop := launchEasierRow.holds Tryd.pinned (OpenSpec.ofChange launchEasierWrong)

/-- 'coblelaw05.LaunchOpens': WHATEVER THE INPUT: true; the input reads as it did. -/
def launchOpensSpec : ChangeSpec := { name := "launchOpens", fn := fun _ => fun
  | [d1, d2, d3] => { results := [.lit (.bool true)], args := [d1, d2, d3] }
  | _ => none }
def launchOpensRow : OpenClaim := { program := "ytcnlbnccbnapbaadoor", sum := "05dd55dd623f85fbb0612db51383d83d968c531002b2612d10531cdd38a7892c", func := "coble/coblelaw05.LaunchOpens", spec := "launchOpens", unfollowed := true, recurses := true, named := ["coble/chart.ways"], apart := false, laid := [("coble/chart.ways", laid_coble_chart_ways)] }
def LaunchOpensSaid : Prop := launchOpensRow.holds Tryd.pinned (OpenSpec.ofChange launchOpensSpec)

/-- ITS FALSE NEIGHBOUR: 'it returns false'. Refute it at one input. -/
def launchOpensWrong : ChangeSpec := { name := "launchOpens", fn := fun _ => fun
  | [d1, d2, d3] => { results := [.lit (.bool false)], args := [d1, d2, d3] }
  | _ => none }
def LaunchOpensWrongFalsely : Prop := launchOpensRow.holds Tryd.pinned (OpenSpec.ofChange launchOpensWrong)

/-- 'coblelaw05.LaunchBoards': WHATEVER THE INPUT: true; the input reads as it did. -/
def launchBoardsSpec : ChangeSpec := { name := "launchBoards", fn := fun _ => fun
  | [d1, d2] => { results := [.lit (.bool true)], args := [d1, d2] }
  | _ => none }
def launchBoardsRow : OpenClaim := { program := "ytcnlbnccbnapbaadoor", sum := "05dd55dd623f85fbb0612db51383d83d968c531002b2612d10531cdd38a7892c", func := "coble/coblelaw05.LaunchBoards", spec := "launchBoards", unfollowed := true, recurses := true, named := ["coble/chart.ways"], apart := false, laid := [("coble/chart.ways", laid_coble_chart_ways)] }
def LaunchBoardsSaid : Prop := launchBoardsRow.holds Tryd.pinned (OpenSpec.ofChange launchBoardsSpec)

/-- ITS FALSE NEIGHBOUR: 'it returns false'. Refute it at one input. -/
def launchBoardsWrong : ChangeSpec := { name := "launchBoards", fn := fun _ => fun
  | [d1, d2] => { results := [.lit (.bool false)], args := [d1, d2] }
  | _ => none }
def LaunchBoardsWrongFalsely : Prop := launchBoardsRow.holds Tryd.pinned (OpenSpec.ofChange launchBoardsWrong)

/-- 'coblelaw05.LaunchSeats': WHATEVER THE INPUT: true; the input reads as it did. -/
def launchSeatsSpec : ChangeSpec := { name := "launchSeats", fn := fun _ => fun
  | [d1, d2, d3] => { results := [.lit (.bool true)], args := [d1, d2, d3] }
  | _ => none }
def launchSeatsRow : OpenClaim := { program := "ytcnlbnccbnapbaadoor", sum := "05dd55dd623f85fbb0612db51383d83d968c531002b2612d10531cdd38a7892c", func := "coble/coblelaw05.LaunchSeats", spec := "launchSeats", unfollowed := true, recurses := true, named := ["coble/chart.ways"], apart := false, laid := [("coble/chart.ways", laid_coble_chart_ways)] }
def LaunchSeatsSaid : Prop := launchSeatsRow.holds Tryd.pinned (OpenSpec.ofChange launchSeatsSpec)

/-- ITS FALSE NEIGHBOUR: 'it returns false'. Refute it at one input. -/
def launchSeatsWrong : ChangeSpec := { name := "launchSeats", fn := fun _ => fun
  | [d1, d2, d3] => { results := [.lit (.bool false)], args := [d1, d2, d3] }
  | _ => none }
def LaunchSeatsWrongFalsely : Prop := launchSeatsRow.holds Tryd.pinned (OpenSpec.ofChange launchSeatsWrong)

/-- 'coblelaw05.LaunchRights': WHATEVER THE INPUT: true; the input reads as it did. -/
def launchRightsSpec : ChangeSpec := { name := "launchRights", fn := fun _ => fun
  | [d1, d2] => { results := [.lit (.bool true)], args := [d1, d2] }
  | _ => none }
def launchRightsRow : OpenClaim := { program := "ytcnlbnccbnapbaadoor", sum := "05dd55dd623f85fbb0612db51383d83d968c531002b2612d10531cdd38a7892c", func := "coble/coblelaw05.LaunchRights", spec := "launchRights", unfollowed := true, recurses := true, named := ["coble/chart.ways"], apart := false, laid := [("coble/chart.ways", laid_coble_chart_ways)] }
def LaunchRightsSaid : Prop := launchRightsRow.holds Tryd.pinned (OpenSpec.ofChange launchRightsSpec)

/-- ITS FALSE NEIGHBOUR: 'it returns false'. Refute it at one input. -/
def launchRightsWrong : ChangeSpec := { name := "launchRights", fn := fun _ => fun
  | [d1, d2] => { results := [.lit (.bool false)], args := [d1, d2] }
  | _ => none }
def LaunchRightsWrongFalsely : Prop := launchRightsRow.holds Tryd.pinned (OpenSpec.ofChange launchRightsWrong)

/-- 'coblelaw05.LaunchUpright': WHATEVER THE INPUT: true; the input reads as it did. -/
def launchUprightSpec : ChangeSpec := { name := "launchUpright", fn := fun _ => fun
  | [d1, d2, d3, d4] => { results := [.lit (.bool true)], args := [d1, d2, d3, d4] }
  | _ => none }
def launchUprightRow : OpenClaim := { program := "ytcnlbnccbnapbaadoor", sum := "05dd55dd623f85fbb0612db51383d83d968c531002b2612d10531cdd38a7892c", func := "coble/coblelaw05.LaunchUpright", spec := "launchUpright", unfollowed := true, recurses := true, named := ["coble/chart.ways"], apart := false, laid := [("coble/chart.ways", laid_coble_chart_ways)] }
def LaunchUprightSaid : Prop := launchUprightRow.holds Tryd.pinned (OpenSpec.ofChange launchUprightSpec)

/-- ITS FALSE NEIGHBOUR: 'it returns false'. Refute it at one input. -/
def launchUprightWrong : ChangeSpec := { name := "launchUpright", fn := fun _ => fun
  | [d1, d2, d3, d4] => { results := [.lit (.bool false)], args := [d1, d2, d3, d4] }
  | _ => none }
def LaunchUprightWrongFalsely : Prop := launchUprightRow.holds Tryd.pinned (OpenSpec.ofChange launchUprightWrong)

/-- 'coblelaw05.LaunchReaches': WHATEVER THE INPUT: true; the input reads as it did. -/
def launchReachesSpec : ChangeSpec := { name := "launchReaches", fn := fun _ => fun
  | [d1, d2, d3] => { results := [.lit (.bool true)], args := [d1, d2, d3] }
  | _ => none }
def launchReachesRow : OpenClaim := { program := "ytcnlbnccbnapbaadoor", sum := "05dd55dd623f85fbb0612db51383d83d968c531002b2612d10531cdd38a7892c", func := "coble/coblelaw05.LaunchReaches", spec := "launchReaches", unfollowed := true, recurses := true, named := ["coble/chart.ways"], apart := false, laid := [("coble/chart.ways", laid_coble_chart_ways)] }
def LaunchReachesSaid : Prop := launchReachesRow.holds Tryd.pinned (OpenSpec.ofChange launchReachesSpec)

/-- ITS FALSE NEIGHBOUR: 'it returns false'. Refute it at one input. -/
def launchReachesWrong : ChangeSpec := { name := "launchReaches", fn := fun _ => fun
  | [d1, d2, d3] => { results := [.lit (.bool false)], args := [d1, d2, d3] }
  | _ => none }
def LaunchReachesWrongFalsely : Prop := launchReachesRow.holds Tryd.pinned (OpenSpec.ofChange launchReachesWrong)

/- THE SECOND FORM. 'bulk': how many values and letters a reading holds, each counted each time it is reached (what is shared counts as often as it is met; a slice's spare places count too). A statement '..UptoSaid' is the law's where the arguments, and the package variables that the reading takes, are together of bulk at most 1048576: NARROWER than '..Said'. Prove '..Said' where nothing that the law and all that it calls make is longer than what came in: it says more and counts as full. Else prove '..UptoSaid'. A law counts once. -/
mutual
def uptoBulk {H : Type} : DataW H → Nat
  | .lit (.string bytes) => bytes.length + 1
  | .lit _ => 1
  | .nil => 1
  | .ptr d => uptoBulk d + 1
  | .slice elems spare => uptoBulkAll elems + uptoBulkAll spare + 1
  | .agg parts => uptoBulkAll parts + 1
  | .iface _ d => uptoBulk d + 1
  | .map entries => uptoBulkEntries entries + 1
  | .held _ => 1
def uptoBulkAll {H : Type} : List (DataW H) → Nat
  | [] => 0
  | d :: r => uptoBulk d + uptoBulkAll r
def uptoBulkEntries {H : Type} : List (Lit × DataW H) → Nat
  | [] => 0
  | x :: r => uptoBulkEntry x + uptoBulkEntries r
def uptoBulkEntry {H : Type} : Lit × DataW H → Nat
  | (.string bytes, d) => bytes.length + uptoBulk d + 1
  | (_, d) => uptoBulk d + 1
 end
def uptoSmall : (H : Type) → List (DataW H) → Bool := fun _ ds => decide (uptoBulkAll ds ≤ 1048576)
def OpenSpec.upto (s : _root_.Go.ChangeSpec) : _root_.Go.OpenSpec := { _root_.Go.OpenSpec.ofChange s with cond := some uptoSmall }

/-- 'coblelaw05.LaunchDecides', WHERE WHAT IT READS IS OF BULK AT MOST 1048576: true; the input reads as it did. -/
def launchDecidesUptoRow : OpenClaim := { program := "ytcnlbnccbnapbaadoor", sum := "05dd55dd623f85fbb0612db51383d83d968c531002b2612d10531cdd38a7892c", func := "coble/coblelaw05.LaunchDecides", spec := "launchDecides", unfollowed := true, recurses := true, named := ["coble/chart.ways"], apart := false, laid := [("coble/chart.ways", laid_coble_chart_ways)], narrowed := true }
def LaunchDecidesUptoSaid : Prop := launchDecidesUptoRow.holds Tryd.pinned (OpenSpec.upto launchDecidesSpec)

/-- 'coblelaw05.LaunchRounds', WHERE WHAT IT READS IS OF BULK AT MOST 1048576: true; the input reads as it did. -/
def launchRoundsUptoRow : OpenClaim := { program := "ytcnlbnccbnapbaadoor", sum := "05dd55dd623f85fbb0612db51383d83d968c531002b2612d10531cdd38a7892c", func := "coble/coblelaw05.LaunchRounds", spec := "launchRounds", unfollowed := true, recurses := true, named := ["coble/chart.ways"], apart := false, laid := [("coble/chart.ways", laid_coble_chart_ways)], narrowed := true }
def LaunchRoundsUptoSaid : Prop := launchRoundsUptoRow.holds Tryd.pinned (OpenSpec.upto launchRoundsSpec)

/-- 'coblelaw05.LaunchComes', WHERE WHAT IT READS IS OF BULK AT MOST 1048576: true; the input reads as it did. -/
def launchComesUptoRow : OpenClaim := { program := "ytcnlbnccbnapbaadoor", sum := "05dd55dd623f85fbb0612db51383d83d968c531002b2612d10531cdd38a7892c", func := "coble/coblelaw05.LaunchComes", spec := "launchComes", unfollowed := true, recurses := true, named := ["coble/chart.ways"], apart := false, laid := [("coble/chart.ways", laid_coble_chart_ways)], narrowed := true }
def LaunchComesUptoSaid : Prop := launchComesUptoRow.holds Tryd.pinned (OpenSpec.upto launchComesSpec)

/-- 'coblelaw05.LaunchCheapest', WHERE WHAT IT READS IS OF BULK AT MOST 1048576: true; the input reads as it did. -/
def launchCheapestUptoRow : OpenClaim := { program := "ytcnlbnccbnapbaadoor", sum := "05dd55dd623f85fbb0612db51383d83d968c531002b2612d10531cdd38a7892c", func := "coble/coblelaw05.LaunchCheapest", spec := "launchCheapest", unfollowed := true, recurses := true, named := ["coble/chart.ways"], apart := false, laid := [("coble/chart.ways", laid_coble_chart_ways)], narrowed := true }
def LaunchCheapestUptoSaid : Prop := launchCheapestUptoRow.holds Tryd.pinned (OpenSpec.upto launchCheapestSpec)

/-- 'coblelaw05.LaunchEasier', WHERE WHAT IT READS IS OF BULK AT MOST 1048576: true; the input reads as it did. -/
def launchEasierUptoRow : OpenClaim := { program := "ytcnlbnccbnapbaadoor", sum := "05dd55dd623f85fbb0612db51383d83d968c531002b2612d10531cdd38a7892c", func := "coble/coblelaw05.LaunchEasier", spec := "launchEasier", unfollowed := true, recurses := true, named := ["coble/chart.ways"], apart := false, laid := [("coble/chart.ways", laid_coble_chart_ways)], narrowed := true }
def LaunchEasierUptoSaid : Prop := launchEasierUptoRow.holds Tryd.pinned (OpenSpec.upto launchEasierSpec)

/-- 'coblelaw05.LaunchOpens', WHERE WHAT IT READS IS OF BULK AT MOST 1048576: true; the input reads as it did. -/
def launchOpensUptoRow : OpenClaim := { program := "ytcnlbnccbnapbaadoor", sum := "05dd55dd623f85fbb0612db51383d83d968c531002b2612d10531cdd38a7892c", func := "coble/coblelaw05.LaunchOpens", spec := "launchOpens", unfollowed := true, recurses := true, named := ["coble/chart.ways"], apart := false, laid := [("coble/chart.ways", laid_coble_chart_ways)], narrowed := true }
def LaunchOpensUptoSaid : Prop := launchOpensUptoRow.holds Tryd.pinned (OpenSpec.upto launchOpensSpec)

/-- 'coblelaw05.LaunchBoards', WHERE WHAT IT READS IS OF BULK AT MOST 1048576: true; the input reads as it did. -/
def launchBoardsUptoRow : OpenClaim := { program := "ytcnlbnccbnapbaadoor", sum := "05dd55dd623f85fbb0612db51383d83d968c531002b2612d10531cdd38a7892c", func := "coble/coblelaw05.LaunchBoards", spec := "launchBoards", unfollowed := true, recurses := true, named := ["coble/chart.ways"], apart := false, laid := [("coble/chart.ways", laid_coble_chart_ways)], narrowed := true }
def LaunchBoardsUptoSaid : Prop := launchBoardsUptoRow.holds Tryd.pinned (OpenSpec.upto launchBoardsSpec)

/-- 'coblelaw05.LaunchSeats', WHERE WHAT IT READS IS OF BULK AT MOST 1048576: true; the input reads as it did. -/
def launchSeatsUptoRow : OpenClaim := { program := "ytcnlbnccbnapbaadoor", sum := "05dd55dd623f85fbb0612db51383d83d968c531002b2612d10531cdd38a7892c", func := "coble/coblelaw05.LaunchSeats", spec := "launchSeats", unfollowed := true, recurses := true, named := ["coble/chart.ways"], apart := false, laid := [("coble/chart.ways", laid_coble_chart_ways)], narrowed := true }
def LaunchSeatsUptoSaid : Prop := launchSeatsUptoRow.holds Tryd.pinned (OpenSpec.upto launchSeatsSpec)

/-- 'coblelaw05.LaunchRights', WHERE WHAT IT READS IS OF BULK AT MOST 1048576: true; the input reads as it did. -/
def launchRightsUptoRow : OpenClaim := { program := "ytcnlbnccbnapbaadoor", sum := "05dd55dd623f85fbb0612db51383d83d968c531002b2612d10531cdd38a7892c", func := "coble/coblelaw05.LaunchRights", spec := "launchRights", unfollowed := true, recurses := true, named := ["coble/chart.ways"], apart := false, laid := [("coble/chart.ways", laid_coble_chart_ways)], narrowed := true }
def LaunchRightsUptoSaid : Prop := launchRightsUptoRow.holds Tryd.pinned (OpenSpec.upto launchRightsSpec)

/-- 'coblelaw05.LaunchUpright', WHERE WHAT IT READS IS OF BULK AT MOST 1048576: true; the input reads as it did. -/
def launchUprightUptoRow : OpenClaim := { program := "ytcnlbnccbnapbaadoor", sum := "05dd55dd623f85fbb0612db51383d83d968c531002b2612d10531cdd38a7892c", func := "coble/coblelaw05.LaunchUpright", spec := "launchUpright", unfollowed := true, recurses := true, named := ["coble/chart.ways"], apart := false, laid := [("coble/chart.ways", laid_coble_chart_ways)], narrowed := true }
def LaunchUprightUptoSaid : Prop := launchUprightUptoRow.holds Tryd.pinned (OpenSpec.upto launchUprightSpec)

/-- 'coblelaw05.LaunchReaches', WHERE WHAT IT READS IS OF BULK AT MOST 1048576: true; the input reads as it did. -/
def launchReachesUptoRow : OpenClaim := { program := "ytcnlbnccbnapbaadoor", sum := "05dd55dd623f85fbb0612db51383d83d968c531002b2612d10531cdd38a7892c", func := "coble/coblelaw05.LaunchReaches", spec := "launchReaches", unfollowed := true, recurses := true, named := ["coble/chart.ways"], apart := false, laid := [("coble/chart.ways", laid_coble_chart_ways)], narrowed := true }
def LaunchReachesUptoSaid : Prop := launchReachesUptoRow.holds Tryd.pinned (OpenSpec.upto launchReachesSpec)

end Rows
end Go.Proofs.YtcnlbnccbnapbaaDoor
