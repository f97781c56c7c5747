/-
  NARROWER THAN 'FOR EVERY INPUT', by the rows' own cells (each row's printed sentence says how): TopAground: laid · TopCarried: laid · TopLighter: laid · TopHauled: laid · TopDry: laid · TopBoarded: laid · TopTowed: laid.
  DERIVED. THE GIVEN ROWS OF THIS SEAT. 7 by the template 'for every input the law returns true; each argument reads behind the call as it read before'; 0 by the template 'total and deterministic' (their statements: YtpmodggfogahhaaGreatDoorTotals.lean).
  GIVEN WITH THE SEED: the statements are not yours to turn. If you find one false, say at which input.
  Laid BY PROGRAM, IN A SANDBOX (cutbox-rows.mjs): the forced cells as the released guide's own fill.sh prints them over the translation c7b0aef044228206… (all of the seat's roots in one cut). By AI agents, Wed Nov 11 2026. No macro, syntax, notation, axiom, sorry.
-/
import Derived.Test.YtpmodggfogahhaaGreatDoorChecked
import GoSem.Claim
import GoSem.ClaimJoined
import GoSem.ClaimMapViews
import Derived.JoinedTies
import Derived.KernelRfl
namespace Go.Proofs.YtpmodggfogahhaaGreatDoor
/- THE CELL 'sum', in the pinned program and in every row, IS THE sha256 OF THE DUMP (.gsa) THAT YtpmodggfogahhaaGreatDoorProg.lean LOADS. Nothing in Lean hashes anything: it is a label: what it is worth is what the hold of that sum in a sandbox is worth. -/
noncomputable def Tryz.pinned : Pinned := { name := "ytpmodggfogahhaagreatdoor", sum := "c7b0aef0442282069de95765fb34bb3fed7a3830b8d0f1c3fa7ff981d026a4d9", checked := Tryz.checked }
namespace Rows
def none {H : Type} : Left H := { results := [], args := [] }

/- WHAT THE LISTED PACKAGE-LEVEL VARIABLES READ AS WHEN THE CALL BEGINS. Each datum BY PROGRAM (the guide's laid-datum.mjs) off the statement by which the dump's own 'gosem.cut.vars' lays the variable. In a bare row this is a premise. The card (YtpmodggfogahhaaGreatDoorCards.lean) ties it to the program's text. -/
def laid_coble_chart_ways {H : Type} : DataW H := .agg [.agg [.lit (.int .i64 1), .lit (.int .i64 1), .lit (.int .i64 0)], .agg [.lit (.int .i64 0), .lit (.int .i64 1), .lit (.int .i64 1)], .agg [.lit (.int .i64 (-1)), .lit (.int .i64 0), .lit (.int .i64 1)], .agg [.lit (.int .i64 (-1)), .lit (.int .i64 (-1)), .lit (.int .i64 0)], .agg [.lit (.int .i64 (-1)), .lit (.int .i64 0), .lit (.int .i64 (-1))], .agg [.lit (.int .i64 0), .lit (.int .i64 1), .lit (.int .i64 (-1))]]

/-- 'cobletop.TopAground': WHATEVER THE INPUT: true; the input reads as it did. -/
def topAgroundSpec : ChangeSpec := { name := "topAground", fn := fun _ => fun
  | [d1, d2] => { results := [.lit (.bool true)], args := [d1, d2] }
  | _ => none }
def topAgroundRow : OpenClaim := { program := "ytpmodggfogahhaagreatdoor", sum := "c7b0aef0442282069de95765fb34bb3fed7a3830b8d0f1c3fa7ff981d026a4d9", func := "coble/cobletop.TopAground", spec := "topAground", unfollowed := true, recurses := true, named := ["coble/chart.ways"], plainKeys := false, apart := false, laid := [("coble/chart.ways", laid_coble_chart_ways)] }
def TopAgroundSaid : Prop := topAgroundRow.holds Tryz.pinned (OpenSpec.ofChange topAgroundSpec)

/-- ITS FALSE NEIGHBOUR: 'it returns false'. Refute it at one input. -/
def topAgroundWrong : ChangeSpec := { name := "topAground", fn := fun _ => fun
  | [d1, d2] => { results := [.lit (.bool false)], args := [d1, d2] }
  | _ => none }
def TopAgroundWrongFalsely : Prop := topAgroundRow.holds Tryz.pinned (OpenSpec.ofChange topAgroundWrong)

/-- 'cobletop.TopCarried': WHATEVER THE INPUT: true; the input reads as it did. -/
def topCarriedSpec : ChangeSpec := { name := "topCarried", fn := fun _ => fun
  | [d1, d2] => { results := [.lit (.bool true)], args := [d1, d2] }
  | _ => none }
def topCarriedRow : OpenClaim := { program := "ytpmodggfogahhaagreatdoor", sum := "c7b0aef0442282069de95765fb34bb3fed7a3830b8d0f1c3fa7ff981d026a4d9", func := "coble/cobletop.TopCarried", spec := "topCarried", unfollowed := true, recurses := true, named := ["coble/chart.ways"], plainKeys := false, apart := false, laid := [("coble/chart.ways", laid_coble_chart_ways)] }
def TopCarriedSaid : Prop := topCarriedRow.holds Tryz.pinned (OpenSpec.ofChange topCarriedSpec)

/-- ITS FALSE NEIGHBOUR: 'it returns false'. Refute it at one input. -/
def topCarriedWrong : ChangeSpec := { name := "topCarried", fn := fun _ => fun
  | [d1, d2] => { results := [.lit (.bool false)], args := [d1, d2] }
  | _ => none }
def TopCarriedWrongFalsely : Prop := topCarriedRow.holds Tryz.pinned (OpenSpec.ofChange topCarriedWrong)

/-- 'cobletop.TopLighter': WHATEVER THE INPUT: true; the input reads as it did. -/
def topLighterSpec : ChangeSpec := { name := "topLighter", fn := fun _ => fun
  | [d1, d2, d3] => { results := [.lit (.bool true)], args := [d1, d2, d3] }
  | _ => none }
def topLighterRow : OpenClaim := { program := "ytpmodggfogahhaagreatdoor", sum := "c7b0aef0442282069de95765fb34bb3fed7a3830b8d0f1c3fa7ff981d026a4d9", func := "coble/cobletop.TopLighter", spec := "topLighter", unfollowed := true, recurses := true, named := ["coble/chart.ways"], plainKeys := false, apart := false, laid := [("coble/chart.ways", laid_coble_chart_ways)] }
def TopLighterSaid : Prop := topLighterRow.holds Tryz.pinned (OpenSpec.ofChange topLighterSpec)

/-- ITS FALSE NEIGHBOUR: 'it returns false'. Refute it at one input. -/
def topLighterWrong : ChangeSpec := { name := "topLighter", fn := fun _ => fun
  | [d1, d2, d3] => { results := [.lit (.bool false)], args := [d1, d2, d3] }
  | _ => none }
def TopLighterWrongFalsely : Prop := topLighterRow.holds Tryz.pinned (OpenSpec.ofChange topLighterWrong)

/-- 'cobletop.TopHauled': WHATEVER THE INPUT: true; the input reads as it did. -/
def topHauledSpec : ChangeSpec := { name := "topHauled", fn := fun _ => fun
  | [d1, d2, d3] => { results := [.lit (.bool true)], args := [d1, d2, d3] }
  | _ => none }
def topHauledRow : OpenClaim := { program := "ytpmodggfogahhaagreatdoor", sum := "c7b0aef0442282069de95765fb34bb3fed7a3830b8d0f1c3fa7ff981d026a4d9", func := "coble/cobletop.TopHauled", spec := "topHauled", unfollowed := true, recurses := true, named := ["coble/chart.ways"], plainKeys := false, apart := false, laid := [("coble/chart.ways", laid_coble_chart_ways)] }
def TopHauledSaid : Prop := topHauledRow.holds Tryz.pinned (OpenSpec.ofChange topHauledSpec)

/-- ITS FALSE NEIGHBOUR: 'it returns false'. Refute it at one input. -/
def topHauledWrong : ChangeSpec := { name := "topHauled", fn := fun _ => fun
  | [d1, d2, d3] => { results := [.lit (.bool false)], args := [d1, d2, d3] }
  | _ => none }
def TopHauledWrongFalsely : Prop := topHauledRow.holds Tryz.pinned (OpenSpec.ofChange topHauledWrong)

/-- 'cobletop.TopDry': WHATEVER THE INPUT: true; the input reads as it did. -/
def topDrySpec : ChangeSpec := { name := "topDry", fn := fun _ => fun
  | [d1, d2, d3] => { results := [.lit (.bool true)], args := [d1, d2, d3] }
  | _ => none }
def topDryRow : OpenClaim := { program := "ytpmodggfogahhaagreatdoor", sum := "c7b0aef0442282069de95765fb34bb3fed7a3830b8d0f1c3fa7ff981d026a4d9", func := "coble/cobletop.TopDry", spec := "topDry", unfollowed := true, recurses := true, named := ["coble/chart.ways"], plainKeys := false, apart := false, laid := [("coble/chart.ways", laid_coble_chart_ways)] }
def TopDrySaid : Prop := topDryRow.holds Tryz.pinned (OpenSpec.ofChange topDrySpec)

/-- ITS FALSE NEIGHBOUR: 'it returns false'. Refute it at one input. -/
def topDryWrong : ChangeSpec := { name := "topDry", fn := fun _ => fun
  | [d1, d2, d3] => { results := [.lit (.bool false)], args := [d1, d2, d3] }
  | _ => none }
def TopDryWrongFalsely : Prop := topDryRow.holds Tryz.pinned (OpenSpec.ofChange topDryWrong)

/-- 'cobletop.TopBoarded': WHATEVER THE INPUT: true; the input reads as it did. -/
def topBoardedSpec : ChangeSpec := { name := "topBoarded", fn := fun _ => fun
  | [d1, d2] => { results := [.lit (.bool true)], args := [d1, d2] }
  | _ => none }
def topBoardedRow : OpenClaim := { program := "ytpmodggfogahhaagreatdoor", sum := "c7b0aef0442282069de95765fb34bb3fed7a3830b8d0f1c3fa7ff981d026a4d9", func := "coble/cobletop.TopBoarded", spec := "topBoarded", unfollowed := true, recurses := true, named := ["coble/chart.ways"], plainKeys := false, apart := false, laid := [("coble/chart.ways", laid_coble_chart_ways)] }
def TopBoardedSaid : Prop := topBoardedRow.holds Tryz.pinned (OpenSpec.ofChange topBoardedSpec)

/-- ITS FALSE NEIGHBOUR: 'it returns false'. Refute it at one input. -/
def topBoardedWrong : ChangeSpec := { name := "topBoarded", fn := fun _ => fun
  | [d1, d2] => { results := [.lit (.bool false)], args := [d1, d2] }
  | _ => none }
def TopBoardedWrongFalsely : Prop := topBoardedRow.holds Tryz.pinned (OpenSpec.ofChange topBoardedWrong)

/-- 'cobletop.TopTowed': WHATEVER THE INPUT: true; the input reads as it did. -/
def topTowedSpec : ChangeSpec := { name := "topTowed", fn := fun _ => fun
  | [d1, d2, d3] => { results := [.lit (.bool true)], args := [d1, d2, d3] }
  | _ => none }
def topTowedRow : OpenClaim := { program := "ytpmodggfogahhaagreatdoor", sum := "c7b0aef0442282069de95765fb34bb3fed7a3830b8d0f1c3fa7ff981d026a4d9", func := "coble/cobletop.TopTowed", spec := "topTowed", unfollowed := true, recurses := true, named := ["coble/chart.ways"], plainKeys := false, apart := false, laid := [("coble/chart.ways", laid_coble_chart_ways)] }
def TopTowedSaid : Prop := topTowedRow.holds Tryz.pinned (OpenSpec.ofChange topTowedSpec)

/-- ITS FALSE NEIGHBOUR: 'it returns false'. Refute it at one input. -/
def topTowedWrong : ChangeSpec := { name := "topTowed", fn := fun _ => fun
  | [d1, d2, d3] => { results := [.lit (.bool false)], args := [d1, d2, d3] }
  | _ => none }
def TopTowedWrongFalsely : Prop := topTowedRow.holds Tryz.pinned (OpenSpec.ofChange topTowedWrong)

/- THE SECOND FORM. 'bulk': how many values and letters a reading holds, each counted each time it is reached (what is shared counts as often as it is met; a slice's spare places count too). A statement '..UptoSaid' is the law's where the arguments, and the package variables that the reading takes, are together of bulk at most 1048576: NARROWER than '..Said'. Prove '..Said' where nothing that the law and all that it calls make is longer than what came in: it says more and counts as full. Else prove '..UptoSaid'. A law counts once. -/
mutual
def uptoBulk {H : Type} : DataW H → Nat
  | .lit (.string bytes) => bytes.length + 1
  | .lit _ => 1
  | .nil => 1
  | .ptr d => uptoBulk d + 1
  | .slice elems spare => uptoBulkAll elems + uptoBulkAll spare + 1
  | .agg parts => uptoBulkAll parts + 1
  | .iface _ d => uptoBulk d + 1
  | .map entries => uptoBulkEntries entries + 1
  | .held _ => 1
def uptoBulkAll {H : Type} : List (DataW H) → Nat
  | [] => 0
  | d :: r => uptoBulk d + uptoBulkAll r
def uptoBulkEntries {H : Type} : List (Lit × DataW H) → Nat
  | [] => 0
  | x :: r => uptoBulkEntry x + uptoBulkEntries r
def uptoBulkEntry {H : Type} : Lit × DataW H → Nat
  | (.string bytes, d) => bytes.length + uptoBulk d + 1
  | (_, d) => uptoBulk d + 1
 end
def uptoSmall : (H : Type) → List (DataW H) → Bool := fun _ ds => decide (uptoBulkAll ds ≤ 1048576)
def OpenSpec.upto (s : _root_.Go.ChangeSpec) : _root_.Go.OpenSpec := { _root_.Go.OpenSpec.ofChange s with cond := some uptoSmall }

/-- 'cobletop.TopAground', WHERE WHAT IT READS IS OF BULK AT MOST 1048576: true; the input reads as it did. -/
def topAgroundUptoRow : OpenClaim := { program := "ytpmodggfogahhaagreatdoor", sum := "c7b0aef0442282069de95765fb34bb3fed7a3830b8d0f1c3fa7ff981d026a4d9", func := "coble/cobletop.TopAground", spec := "topAground", unfollowed := true, recurses := true, named := ["coble/chart.ways"], plainKeys := false, apart := false, laid := [("coble/chart.ways", laid_coble_chart_ways)], narrowed := true }
def TopAgroundUptoSaid : Prop := topAgroundUptoRow.holds Tryz.pinned (OpenSpec.upto topAgroundSpec)

/-- 'cobletop.TopCarried', WHERE WHAT IT READS IS OF BULK AT MOST 1048576: true; the input reads as it did. -/
def topCarriedUptoRow : OpenClaim := { program := "ytpmodggfogahhaagreatdoor", sum := "c7b0aef0442282069de95765fb34bb3fed7a3830b8d0f1c3fa7ff981d026a4d9", func := "coble/cobletop.TopCarried", spec := "topCarried", unfollowed := true, recurses := true, named := ["coble/chart.ways"], plainKeys := false, apart := false, laid := [("coble/chart.ways", laid_coble_chart_ways)], narrowed := true }
def TopCarriedUptoSaid : Prop := topCarriedUptoRow.holds Tryz.pinned (OpenSpec.upto topCarriedSpec)

/-- 'cobletop.TopLighter', WHERE WHAT IT READS IS OF BULK AT MOST 1048576: true; the input reads as it did. -/
def topLighterUptoRow : OpenClaim := { program := "ytpmodggfogahhaagreatdoor", sum := "c7b0aef0442282069de95765fb34bb3fed7a3830b8d0f1c3fa7ff981d026a4d9", func := "coble/cobletop.TopLighter", spec := "topLighter", unfollowed := true, recurses := true, named := ["coble/chart.ways"], plainKeys := false, apart := false, laid := [("coble/chart.ways", laid_coble_chart_ways)], narrowed := true }
def TopLighterUptoSaid : Prop := topLighterUptoRow.holds Tryz.pinned (OpenSpec.upto topLighterSpec)

/-- 'cobletop.TopHauled', WHERE WHAT IT READS IS OF BULK AT MOST 1048576: true; the input reads as it did. -/
def topHauledUptoRow : OpenClaim := { program := "ytpmodggfogahhaagreatdoor", sum := "c7b0aef0442282069de95765fb34bb3fed7a3830b8d0f1c3fa7ff981d026a4d9", func := "coble/cobletop.TopHauled", spec := "topHauled", unfollowed := true, recurses := true, named := ["coble/chart.ways"], plainKeys := false, apart := false, laid := [("coble/chart.ways", laid_coble_chart_ways)], narrowed := true }
def TopHauledUptoSaid : Prop := topHauledUptoRow.holds Tryz.pinned (OpenSpec.upto topHauledSpec)

/-- 'cobletop.TopDry', WHERE WHAT IT READS IS OF BULK AT MOST 1048576: true; the input reads as it did. -/
def topDryUptoRow : OpenClaim := { program := "ytpmodggfogahhaagreatdoor", sum := "c7b0aef0442282069de95765fb34bb3fed7a3830b8d0f1c3fa7ff981d026a4d9", func := "coble/cobletop.TopDry", spec := "topDry", unfollowed := true, recurses := true, named := ["coble/chart.ways"], plainKeys := false, apart := false, laid := [("coble/chart.ways", laid_coble_chart_ways)], narrowed := true }
def TopDryUptoSaid : Prop := topDryUptoRow.holds Tryz.pinned (OpenSpec.upto topDrySpec)

/-- 'cobletop.TopBoarded', WHERE WHAT IT READS IS OF BULK AT MOST 1048576: true; the input reads as it did. -/
def topBoardedUptoRow : OpenClaim := { program := "ytpmodggfogahhaagreatdoor", sum := "c7b0aef0442282069de95765fb34bb3fed7a3830b8d0f1c3fa7ff981d026a4d9", func := "coble/cobletop.TopBoarded", spec := "topBoarded", unfollowed := true, recurses := true, named := ["coble/chart.ways"], plainKeys := false, apart := false, laid := [("coble/chart.ways", laid_coble_chart_ways)], narrowed := true }
def TopBoardedUptoSaid : Prop := topBoardedUptoRow.holds Tryz.pinned (OpenSpec.upto topBoardedSpec)

/-- 'cobletop.TopTowed', WHERE WHAT IT READS IS OF BULK AT MOST 1048576: true; the input reads as it did. -/
def topTowedUptoRow : OpenClaim := { program := "ytpmodggfogahhaagreatdoor", sum := "c7b0aef0442282069de95765fb34bb3fed7a3830b8d0f1c3fa7ff981d026a4d9", func := "coble/cobletop.TopTowed", spec := "topTowed", unfollowed := true, recurses := true, named := ["coble/chart.ways"], plainKeys := false, apart := false, laid := [("coble/chart.ways", laid_coble_chart_ways)], narrowed := true }
def TopTowedUptoSaid : Prop := topTowedUptoRow.holds Tryz.pinned (OpenSpec.upto topTowedSpec)

end Rows
end Go.Proofs.YtpmodggfogahhaaGreatDoor
