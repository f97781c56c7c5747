/-
  NARROWER THAN 'FOR EVERY INPUT', by the rows' own cells (each row's printed sentence says how): FixesConflict: laid · FixesStrikes: laid · FixesDoubts: laid · FixesWhere: laid · FixesFound: laid · FixesReal: laid · FixesSources: laid · FixesMany: laid · FixesLeast: laid · FixesReasons: laid.
  DERIVED. THE GIVEN ROWS OF THIS SEAT. 10 by the template 'for every input the law returns true; each argument reads behind the call as it read before'; 0 by the template 'total and deterministic' (their statements: YtaloedccoadedaaDoorTotals.lean).
  GIVEN WITH THE SEED: the statements are not yours to turn. If you find one false, say at which input.
  Laid BY PROGRAM, IN A SANDBOX (cutbox-rows.mjs): the forced cells as the released guide's own fill.sh prints them over the translation 296f94e83776fd92… (all of the seat's roots in one cut). By AI agents, Wed Nov 11 2026. No macro, syntax, notation, axiom, sorry.
-/
import Derived.Test.YtaloedccoadedaaDoorChecked
import GoSem.Claim
import GoSem.ClaimJoined
import GoSem.ClaimMapViews
import Derived.JoinedTies
import Derived.KernelRfl
namespace Go.Proofs.YtaloedccoadedaaDoor
/- THE CELL 'sum', in the pinned program and in every row, IS THE sha256 OF THE DUMP (.gsa) THAT YtaloedccoadedaaDoorProg.lean LOADS. Nothing in Lean hashes anything: it is a label: what it is worth is what the hold of that sum in a sandbox is worth. -/
noncomputable def Tryd.pinned : Pinned := { name := "ytaloedccoadedaadoor", sum := "296f94e83776fd92e99473b2a04d410055c4c47c46fd1dc91f3579540c5f8fdb", checked := Tryd.checked }
namespace Rows
def none {H : Type} : Left H := { results := [], args := [] }

/- WHAT THE LISTED PACKAGE-LEVEL VARIABLES READ AS WHEN THE CALL BEGINS. Each datum BY PROGRAM (the guide's laid-datum.mjs) off the statement by which the dump's own 'gosem.cut.vars' lays the variable. In a bare row this is a premise. The card (YtaloedccoadedaaDoorCards.lean) ties it to the program's text. -/
def laid_math_bits_deBruijn32tab {H : Type} : DataW H := .agg [.lit (.int .u8 0), .lit (.int .u8 1), .lit (.int .u8 28), .lit (.int .u8 2), .lit (.int .u8 29), .lit (.int .u8 14), .lit (.int .u8 24), .lit (.int .u8 3), .lit (.int .u8 30), .lit (.int .u8 22), .lit (.int .u8 20), .lit (.int .u8 15), .lit (.int .u8 25), .lit (.int .u8 17), .lit (.int .u8 4), .lit (.int .u8 8), .lit (.int .u8 31), .lit (.int .u8 27), .lit (.int .u8 13), .lit (.int .u8 23), .lit (.int .u8 21), .lit (.int .u8 19), .lit (.int .u8 16), .lit (.int .u8 7), .lit (.int .u8 26), .lit (.int .u8 12), .lit (.int .u8 18), .lit (.int .u8 6), .lit (.int .u8 11), .lit (.int .u8 5), .lit (.int .u8 10), .lit (.int .u8 9)]
def laid_math_bits_deBruijn64tab {H : Type} : DataW H := .agg [.lit (.int .u8 0), .lit (.int .u8 1), .lit (.int .u8 56), .lit (.int .u8 2), .lit (.int .u8 57), .lit (.int .u8 49), .lit (.int .u8 28), .lit (.int .u8 3), .lit (.int .u8 61), .lit (.int .u8 58), .lit (.int .u8 42), .lit (.int .u8 50), .lit (.int .u8 38), .lit (.int .u8 29), .lit (.int .u8 17), .lit (.int .u8 4), .lit (.int .u8 62), .lit (.int .u8 47), .lit (.int .u8 59), .lit (.int .u8 36), .lit (.int .u8 45), .lit (.int .u8 43), .lit (.int .u8 51), .lit (.int .u8 22), .lit (.int .u8 53), .lit (.int .u8 39), .lit (.int .u8 33), .lit (.int .u8 30), .lit (.int .u8 24), .lit (.int .u8 18), .lit (.int .u8 12), .lit (.int .u8 5), .lit (.int .u8 63), .lit (.int .u8 55), .lit (.int .u8 48), .lit (.int .u8 27), .lit (.int .u8 60), .lit (.int .u8 41), .lit (.int .u8 37), .lit (.int .u8 16), .lit (.int .u8 46), .lit (.int .u8 35), .lit (.int .u8 44), .lit (.int .u8 21), .lit (.int .u8 52), .lit (.int .u8 32), .lit (.int .u8 23), .lit (.int .u8 11), .lit (.int .u8 54), .lit (.int .u8 26), .lit (.int .u8 40), .lit (.int .u8 15), .lit (.int .u8 34), .lit (.int .u8 20), .lit (.int .u8 31), .lit (.int .u8 10), .lit (.int .u8 25), .lit (.int .u8 14), .lit (.int .u8 19), .lit (.int .u8 9), .lit (.int .u8 13), .lit (.int .u8 8), .lit (.int .u8 7), .lit (.int .u8 6)]
def laid_coble_chart_ways {H : Type} : DataW H := .agg [.agg [.lit (.int .i64 1), .lit (.int .i64 1), .lit (.int .i64 0)], .agg [.lit (.int .i64 0), .lit (.int .i64 1), .lit (.int .i64 1)], .agg [.lit (.int .i64 (-1)), .lit (.int .i64 0), .lit (.int .i64 1)], .agg [.lit (.int .i64 (-1)), .lit (.int .i64 (-1)), .lit (.int .i64 0)], .agg [.lit (.int .i64 (-1)), .lit (.int .i64 0), .lit (.int .i64 (-1))], .agg [.lit (.int .i64 0), .lit (.int .i64 1), .lit (.int .i64 (-1))]]

/-- 'coblelaw03.FixesConflict': WHATEVER THE INPUT: true; the input reads as it did. -/
def fixesConflictSpec : ChangeSpec := { name := "fixesConflict", fn := fun _ => fun
  | [d1, d2] => { results := [.lit (.bool true)], args := [d1, d2] }
  | _ => none }
def fixesConflictRow : OpenClaim := { program := "ytaloedccoadedaadoor", sum := "296f94e83776fd92e99473b2a04d410055c4c47c46fd1dc91f3579540c5f8fdb", func := "coble/coblelaw03.FixesConflict", spec := "fixesConflict", unfollowed := true, recurses := true, named := ["coble/chart.ways", "math/bits.deBruijn32tab", "math/bits.deBruijn64tab"], apart := false, laid := [("math/bits.deBruijn32tab", laid_math_bits_deBruijn32tab), ("math/bits.deBruijn64tab", laid_math_bits_deBruijn64tab), ("coble/chart.ways", laid_coble_chart_ways)] }
def FixesConflictSaid : Prop := fixesConflictRow.holds Tryd.pinned (OpenSpec.ofChange fixesConflictSpec)

/-- ITS FALSE NEIGHBOUR: 'it returns false'. Refute it at one input. -/
def fixesConflictWrong : ChangeSpec := { name := "fixesConflict", fn := fun _ => fun
  | [d1, d2] => { results := [.lit (.bool false)], args := [d1, d2] }
  | _ => none }
def FixesConflictWrongFalsely : Prop := fixesConflictRow.holds Tryd.pinned (OpenSpec.ofChange fixesConflictWrong)

/-- 'coblelaw03.FixesStrikes': WHATEVER THE INPUT: true; the input reads as it did. -/
def fixesStrikesSpec : ChangeSpec := { name := "fixesStrikes", fn := fun _ => fun
  | [d1, d2, d3] => { results := [.lit (.bool true)], args := [d1, d2, d3] }
  | _ => none }
def fixesStrikesRow : OpenClaim := { program := "ytaloedccoadedaadoor", sum := "296f94e83776fd92e99473b2a04d410055c4c47c46fd1dc91f3579540c5f8fdb", func := "coble/coblelaw03.FixesStrikes", spec := "fixesStrikes", unfollowed := true, recurses := true, named := ["coble/chart.ways", "math/bits.deBruijn32tab", "math/bits.deBruijn64tab"], apart := false, laid := [("math/bits.deBruijn32tab", laid_math_bits_deBruijn32tab), ("math/bits.deBruijn64tab", laid_math_bits_deBruijn64tab), ("coble/chart.ways", laid_coble_chart_ways)] }
def FixesStrikesSaid : Prop := fixesStrikesRow.holds Tryd.pinned (OpenSpec.ofChange fixesStrikesSpec)

/-- ITS FALSE NEIGHBOUR: 'it returns false'. Refute it at one input. -/
def fixesStrikesWrong : ChangeSpec := { name := "fixesStrikes", fn := fun _ => fun
  | [d1, d2, d3] => { results := [.lit (.bool false)], args := [d1, d2, d3] }
  | _ => none }
def FixesStrikesWrongFalsely : Prop := fixesStrikesRow.holds Tryd.pinned (OpenSpec.ofChange fixesStrikesWrong)

/-- 'coblelaw03.FixesDoubts': WHATEVER THE INPUT: true; the input reads as it did. -/
def fixesDoubtsSpec : ChangeSpec := { name := "fixesDoubts", fn := fun _ => fun
  | [d1, d2, d3] => { results := [.lit (.bool true)], args := [d1, d2, d3] }
  | _ => none }
def fixesDoubtsRow : OpenClaim := { program := "ytaloedccoadedaadoor", sum := "296f94e83776fd92e99473b2a04d410055c4c47c46fd1dc91f3579540c5f8fdb", func := "coble/coblelaw03.FixesDoubts", spec := "fixesDoubts", unfollowed := true, recurses := true, named := ["coble/chart.ways", "math/bits.deBruijn32tab", "math/bits.deBruijn64tab"], apart := false, laid := [("math/bits.deBruijn32tab", laid_math_bits_deBruijn32tab), ("math/bits.deBruijn64tab", laid_math_bits_deBruijn64tab), ("coble/chart.ways", laid_coble_chart_ways)] }
def FixesDoubtsSaid : Prop := fixesDoubtsRow.holds Tryd.pinned (OpenSpec.ofChange fixesDoubtsSpec)

/-- ITS FALSE NEIGHBOUR: 'it returns false'. Refute it at one input. -/
def fixesDoubtsWrong : ChangeSpec := { name := "fixesDoubts", fn := fun _ => fun
  | [d1, d2, d3] => { results := [.lit (.bool false)], args := [d1, d2, d3] }
  | _ => none }
def FixesDoubtsWrongFalsely : Prop := fixesDoubtsRow.holds Tryd.pinned (OpenSpec.ofChange fixesDoubtsWrong)

/-- 'coblelaw03.FixesWhere': WHATEVER THE INPUT: true; the input reads as it did. -/
def fixesWhereSpec : ChangeSpec := { name := "fixesWhere", fn := fun _ => fun
  | [d1, d2] => { results := [.lit (.bool true)], args := [d1, d2] }
  | _ => none }
def fixesWhereRow : OpenClaim := { program := "ytaloedccoadedaadoor", sum := "296f94e83776fd92e99473b2a04d410055c4c47c46fd1dc91f3579540c5f8fdb", func := "coble/coblelaw03.FixesWhere", spec := "fixesWhere", unfollowed := true, recurses := true, named := ["coble/chart.ways", "math/bits.deBruijn32tab", "math/bits.deBruijn64tab"], apart := false, laid := [("math/bits.deBruijn32tab", laid_math_bits_deBruijn32tab), ("math/bits.deBruijn64tab", laid_math_bits_deBruijn64tab), ("coble/chart.ways", laid_coble_chart_ways)] }
def FixesWhereSaid : Prop := fixesWhereRow.holds Tryd.pinned (OpenSpec.ofChange fixesWhereSpec)

/-- ITS FALSE NEIGHBOUR: 'it returns false'. Refute it at one input. -/
def fixesWhereWrong : ChangeSpec := { name := "fixesWhere", fn := fun _ => fun
  | [d1, d2] => { results := [.lit (.bool false)], args := [d1, d2] }
  | _ => none }
def FixesWhereWrongFalsely : Prop := fixesWhereRow.holds Tryd.pinned (OpenSpec.ofChange fixesWhereWrong)

/-- 'coblelaw03.FixesFound': WHATEVER THE INPUT: true; the input reads as it did. -/
def fixesFoundSpec : ChangeSpec := { name := "fixesFound", fn := fun _ => fun
  | [d1, d2, d3] => { results := [.lit (.bool true)], args := [d1, d2, d3] }
  | _ => none }
def fixesFoundRow : OpenClaim := { program := "ytaloedccoadedaadoor", sum := "296f94e83776fd92e99473b2a04d410055c4c47c46fd1dc91f3579540c5f8fdb", func := "coble/coblelaw03.FixesFound", spec := "fixesFound", unfollowed := true, recurses := true, named := ["coble/chart.ways", "math/bits.deBruijn32tab", "math/bits.deBruijn64tab"], apart := false, laid := [("math/bits.deBruijn32tab", laid_math_bits_deBruijn32tab), ("math/bits.deBruijn64tab", laid_math_bits_deBruijn64tab), ("coble/chart.ways", laid_coble_chart_ways)] }
def FixesFoundSaid : Prop := fixesFoundRow.holds Tryd.pinned (OpenSpec.ofChange fixesFoundSpec)

/-- ITS FALSE NEIGHBOUR: 'it returns false'. Refute it at one input. -/
def fixesFoundWrong : ChangeSpec := { name := "fixesFound", fn := fun _ => fun
  | [d1, d2, d3] => { results := [.lit (.bool false)], args := [d1, d2, d3] }
  | _ => none }
def FixesFoundWrongFalsely : Prop := fixesFoundRow.holds Tryd.pinned (OpenSpec.ofChange fixesFoundWrong)

/-- 'coblelaw03.FixesReal': WHATEVER THE INPUT: true; the input reads as it did. -/
def fixesRealSpec : ChangeSpec := { name := "fixesReal", fn := fun _ => fun
  | [d1, d2, d3] => { results := [.lit (.bool true)], args := [d1, d2, d3] }
  | _ => none }
def fixesRealRow : OpenClaim := { program := "ytaloedccoadedaadoor", sum := "296f94e83776fd92e99473b2a04d410055c4c47c46fd1dc91f3579540c5f8fdb", func := "coble/coblelaw03.FixesReal", spec := "fixesReal", unfollowed := true, recurses := true, named := ["coble/chart.ways", "math/bits.deBruijn32tab", "math/bits.deBruijn64tab"], apart := false, laid := [("math/bits.deBruijn32tab", laid_math_bits_deBruijn32tab), ("math/bits.deBruijn64tab", laid_math_bits_deBruijn64tab), ("coble/chart.ways", laid_coble_chart_ways)] }
def FixesRealSaid : Prop := fixesRealRow.holds Tryd.pinned (OpenSpec.ofChange fixesRealSpec)

/-- ITS FALSE NEIGHBOUR: 'it returns false'. Refute it at one input. -/
def fixesRealWrong : ChangeSpec := { name := "fixesReal", fn := fun _ => fun
  | [d1, d2, d3] => { results := [.lit (.bool false)], args := [d1, d2, d3] }
  | _ => none }
def FixesRealWrongFalsely : Prop := fixesRealRow.holds Tryd.pinned (OpenSpec.ofChange fixesRealWrong)

/-- 'coblelaw03.FixesSources': WHATEVER THE INPUT: true; the input reads as it did. -/
def fixesSourcesSpec : ChangeSpec := { name := "fixesSources", fn := fun _ => fun
  | [d] => { results := [.lit (.bool true)], args := [d] }
  | _ => none }
def fixesSourcesRow : OpenClaim := { program := "ytaloedccoadedaadoor", sum := "296f94e83776fd92e99473b2a04d410055c4c47c46fd1dc91f3579540c5f8fdb", func := "coble/coblelaw03.FixesSources", spec := "fixesSources", unfollowed := true, recurses := true, named := ["coble/chart.ways", "math/bits.deBruijn32tab", "math/bits.deBruijn64tab"], apart := false, laid := [("math/bits.deBruijn32tab", laid_math_bits_deBruijn32tab), ("math/bits.deBruijn64tab", laid_math_bits_deBruijn64tab), ("coble/chart.ways", laid_coble_chart_ways)] }
def FixesSourcesSaid : Prop := fixesSourcesRow.holds Tryd.pinned (OpenSpec.ofChange fixesSourcesSpec)

/-- ITS FALSE NEIGHBOUR: 'it returns false'. Refute it at one input. -/
def fixesSourcesWrong : ChangeSpec := { name := "fixesSources", fn := fun _ => fun
  | [d] => { results := [.lit (.bool false)], args := [d] }
  | _ => none }
def FixesSourcesWrongFalsely : Prop := fixesSourcesRow.holds Tryd.pinned (OpenSpec.ofChange fixesSourcesWrong)

/-- 'coblelaw03.FixesMany': WHATEVER THE INPUT: true; the input reads as it did. -/
def fixesManySpec : ChangeSpec := { name := "fixesMany", fn := fun _ => fun
  | [d1, d2] => { results := [.lit (.bool true)], args := [d1, d2] }
  | _ => none }
def fixesManyRow : OpenClaim := { program := "ytaloedccoadedaadoor", sum := "296f94e83776fd92e99473b2a04d410055c4c47c46fd1dc91f3579540c5f8fdb", func := "coble/coblelaw03.FixesMany", spec := "fixesMany", unfollowed := true, recurses := true, named := ["coble/chart.ways", "math/bits.deBruijn32tab", "math/bits.deBruijn64tab"], apart := false, laid := [("math/bits.deBruijn32tab", laid_math_bits_deBruijn32tab), ("math/bits.deBruijn64tab", laid_math_bits_deBruijn64tab), ("coble/chart.ways", laid_coble_chart_ways)] }
def FixesManySaid : Prop := fixesManyRow.holds Tryd.pinned (OpenSpec.ofChange fixesManySpec)

/-- ITS FALSE NEIGHBOUR: 'it returns false'. Refute it at one input. -/
def fixesManyWrong : ChangeSpec := { name := "fixesMany", fn := fun _ => fun
  | [d1, d2] => { results := [.lit (.bool false)], args := [d1, d2] }
  | _ => none }
def FixesManyWrongFalsely : Prop := fixesManyRow.holds Tryd.pinned (OpenSpec.ofChange fixesManyWrong)

/-- 'coblelaw03.FixesLeast': WHATEVER THE INPUT: true; the input reads as it did. -/
def fixesLeastSpec : ChangeSpec := { name := "fixesLeast", fn := fun _ => fun
  | [d1, d2, d3] => { results := [.lit (.bool true)], args := [d1, d2, d3] }
  | _ => none }
def fixesLeastRow : OpenClaim := { program := "ytaloedccoadedaadoor", sum := "296f94e83776fd92e99473b2a04d410055c4c47c46fd1dc91f3579540c5f8fdb", func := "coble/coblelaw03.FixesLeast", spec := "fixesLeast", unfollowed := true, recurses := true, named := ["coble/chart.ways", "math/bits.deBruijn32tab", "math/bits.deBruijn64tab"], apart := false, laid := [("math/bits.deBruijn32tab", laid_math_bits_deBruijn32tab), ("math/bits.deBruijn64tab", laid_math_bits_deBruijn64tab), ("coble/chart.ways", laid_coble_chart_ways)] }
def FixesLeastSaid : Prop := fixesLeastRow.holds Tryd.pinned (OpenSpec.ofChange fixesLeastSpec)

/-- ITS FALSE NEIGHBOUR: 'it returns false'. Refute it at one input. -/
def fixesLeastWrong : ChangeSpec := { name := "fixesLeast", fn := fun _ => fun
  | [d1, d2, d3] => { results := [.lit (.bool false)], args := [d1, d2, d3] }
  | _ => none }
def FixesLeastWrongFalsely : Prop := fixesLeastRow.holds Tryd.pinned (OpenSpec.ofChange fixesLeastWrong)

/-- 'coblelaw03.FixesReasons': WHATEVER THE INPUT: true; the input reads as it did. -/
def fixesReasonsSpec : ChangeSpec := { name := "fixesReasons", fn := fun _ => fun
  | [d1, d2, d3] => { results := [.lit (.bool true)], args := [d1, d2, d3] }
  | _ => none }
def fixesReasonsRow : OpenClaim := { program := "ytaloedccoadedaadoor", sum := "296f94e83776fd92e99473b2a04d410055c4c47c46fd1dc91f3579540c5f8fdb", func := "coble/coblelaw03.FixesReasons", spec := "fixesReasons", unfollowed := true, recurses := true, named := ["coble/chart.ways", "math/bits.deBruijn32tab", "math/bits.deBruijn64tab"], apart := false, laid := [("math/bits.deBruijn32tab", laid_math_bits_deBruijn32tab), ("math/bits.deBruijn64tab", laid_math_bits_deBruijn64tab), ("coble/chart.ways", laid_coble_chart_ways)] }
def FixesReasonsSaid : Prop := fixesReasonsRow.holds Tryd.pinned (OpenSpec.ofChange fixesReasonsSpec)

/-- ITS FALSE NEIGHBOUR: 'it returns false'. Refute it at one input. -/
def fixesReasonsWrong : ChangeSpec := { name := "fixesReasons", fn := fun _ => fun
  | [d1, d2, d3] => { results := [.lit (.bool false)], args := [d1, d2, d3] }
  | _ => none }
def FixesReasonsWrongFalsely : Prop := fixesReasonsRow.holds Tryd.pinned (OpenSpec.ofChange fixesReasonsWrong)

/- THE SECOND FORM. 'bulk': how many values and letters a reading holds, each counted each time it is reached (what is shared counts as often as it is met; a slice's spare places count too). A statement '..UptoSaid' is the law's where the arguments, and the package variables that the reading takes, are together of bulk at most 1048576: NARROWER than '..Said'. Prove '..Said' where nothing that the law and all that it calls make is longer than what came in: it says more and counts as full. Else prove '..UptoSaid'. A law counts once. -/
mutual
def uptoBulk {H : Type} : DataW H → Nat
  | .lit (.string bytes) => bytes.length + 1
  | .lit _ => 1
  | .nil => 1
  | .ptr d => uptoBulk d + 1
  | .slice elems spare => uptoBulkAll elems + uptoBulkAll spare + 1
  | .agg parts => uptoBulkAll parts + 1
  | .iface _ d => uptoBulk d + 1
  | .map entries => uptoBulkEntries entries + 1
  | .held _ => 1
def uptoBulkAll {H : Type} : List (DataW H) → Nat
  | [] => 0
  | d :: r => uptoBulk d + uptoBulkAll r
def uptoBulkEntries {H : Type} : List (Lit × DataW H) → Nat
  | [] => 0
  | x :: r => uptoBulkEntry x + uptoBulkEntries r
def uptoBulkEntry {H : Type} : Lit × DataW H → Nat
  | (.string bytes, d) => bytes.length + uptoBulk d + 1
  | (_, d) => uptoBulk d + 1
 end
def uptoSmall : (H : Type) → List (DataW H) → Bool := fun _ ds => decide (uptoBulkAll ds ≤ 1048576)
def OpenSpec.upto (s : _root_.Go.ChangeSpec) : _root_.Go.OpenSpec := { _root_.Go.OpenSpec.ofChange s with cond := some uptoSmall }

/-- 'coblelaw03.FixesConflict', WHERE WHAT IT READS IS OF BULK AT MOST 1048576: true; the input reads as it did. -/
def fixesConflictUptoRow : OpenClaim := { program := "ytaloedccoadedaadoor", sum := "296f94e83776fd92e99473b2a04d410055c4c47c46fd1dc91f3579540c5f8fdb", func := "coble/coblelaw03.FixesConflict", spec := "fixesConflict", unfollowed := true, recurses := true, named := ["coble/chart.ways", "math/bits.deBruijn32tab", "math/bits.deBruijn64tab"], apart := false, laid := [("math/bits.deBruijn32tab", laid_math_bits_deBruijn32tab), ("math/bits.deBruijn64tab", laid_math_bits_deBruijn64tab), ("coble/chart.ways", laid_coble_chart_ways)], narrowed := true }
def FixesConflictUptoSaid : Prop := fixesConflictUptoRow.holds Tryd.pinned (OpenSpec.upto fixesConflictSpec)

/-- 'coblelaw03.FixesStrikes', WHERE WHAT IT READS IS OF BULK AT MOST 1048576: true; the input reads as it did. -/
def fixesStrikesUptoRow : OpenClaim := { program := "ytaloedccoadedaadoor", sum := "296f94e83776fd92e99473b2a04d410055c4c47c46fd1dc91f3579540c5f8fdb", func := "coble/coblelaw03.FixesStrikes", spec := "fixesStrikes", unfollowed := true, recurses := true, named := ["coble/chart.ways", "math/bits.deBruijn32tab", "math/bits.deBruijn64tab"], apart := false, laid := [("math/bits.deBruijn32tab", laid_math_bits_deBruijn32tab), ("math/bits.deBruijn64tab", laid_math_bits_deBruijn64tab), ("coble/chart.ways", laid_coble_chart_ways)], narrowed := true }
def FixesStrikesUptoSaid : Prop := fixesStrikesUptoRow.holds Tryd.pinned (OpenSpec.upto fixesStrikesSpec)

/-- 'coblelaw03.FixesDoubts', WHERE WHAT IT READS IS OF BULK AT MOST 1048576: true; the input reads as it did. -/
def fixesDoubtsUptoRow : OpenClaim := { program := "ytaloedccoadedaadoor", sum := "296f94e83776fd92e99473b2a04d410055c4c47c46fd1dc91f3579540c5f8fdb", func := "coble/coblelaw03.FixesDoubts", spec := "fixesDoubts", unfollowed := true, recurses := true, named := ["coble/chart.ways", "math/bits.deBruijn32tab", "math/bits.deBruijn64tab"], apart := false, laid := [("math/bits.deBruijn32tab", laid_math_bits_deBruijn32tab), ("math/bits.deBruijn64tab", laid_math_bits_deBruijn64tab), ("coble/chart.ways", laid_coble_chart_ways)], narrowed := true }
def FixesDoubtsUptoSaid : Prop := fixesDoubtsUptoRow.holds Tryd.pinned (OpenSpec.upto fixesDoubtsSpec)

/-- 'coblelaw03.FixesWhere', WHERE WHAT IT READS IS OF BULK AT MOST 1048576: true; the input reads as it did. -/
def fixesWhereUptoRow : OpenClaim := { program := "ytaloedccoadedaadoor", sum := "296f94e83776fd92e99473b2a04d410055c4c47c46fd1dc91f3579540c5f8fdb", func := "coble/coblelaw03.FixesWhere", spec := "fixesWhere", unfollowed := true, recurses := true, named := ["coble/chart.ways", "math/bits.deBruijn32tab", "math/bits.deBruijn64tab"], apart := false, laid := [("math/bits.deBruijn32tab", laid_math_bits_deBruijn32tab), ("math/bits.deBruijn64tab", laid_math_bits_deBruijn64tab), ("coble/chart.ways", laid_coble_chart_ways)], narrowed := true }
def FixesWhereUptoSaid : Prop := fixesWhereUptoRow.holds Tryd.pinned (OpenSpec.upto fixesWhereSpec)

/-- 'coblelaw03.FixesFound', WHERE WHAT IT READS IS OF BULK AT MOST 1048576: true; the input reads as it did. -/
def fixesFoundUptoRow : OpenClaim := { program := "ytaloedccoadedaadoor", sum := "296f94e83776fd92e99473b2a04d410055c4c47c46fd1dc91f3579540c5f8fdb", func := "coble/coblelaw03.FixesFound", spec := "fixesFound", unfollowed := true, recurses := true, named := ["coble/chart.ways", "math/bits.deBruijn32tab", "math/bits.deBruijn64tab"], apart := false, laid := [("math/bits.deBruijn32tab", laid_math_bits_deBruijn32tab), ("math/bits.deBruijn64tab", laid_math_bits_deBruijn64tab), ("coble/chart.ways", laid_coble_chart_ways)], narrowed := true }
def FixesFoundUptoSaid : Prop := fixesFoundUptoRow.holds Tryd.pinned (OpenSpec.upto fixesFoundSpec)

/-- 'coblelaw03.FixesReal', WHERE WHAT IT READS IS OF BULK AT MOST 1048576: true; the input reads as it did. -/
def fixesRealUptoRow : OpenClaim := { program := "ytaloedccoadedaadoor", sum := "296f94e83776fd92e99473b2a04d410055c4c47c46fd1dc91f3579540c5f8fdb", func := "coble/coblelaw03.FixesReal", spec := "fixesReal", unfollowed := true, recurses := true, named := ["coble/chart.ways", "math/bits.deBruijn32tab", "math/bits.deBruijn64tab"], apart := false, laid := [("math/bits.deBruijn32tab", laid_math_bits_deBruijn32tab), ("math/bits.deBruijn64tab", laid_math_bits_deBruijn64tab), ("coble/chart.ways", laid_coble_chart_ways)], narrowed := true }
def FixesRealUptoSaid : Prop := fixesRealUptoRow.holds Tryd.pinned (OpenSpec.upto fixesRealSpec)

/-- 'coblelaw03.FixesSources', WHERE WHAT IT READS IS OF BULK AT MOST 1048576: true; the input reads as it did. -/
def fixesSourcesUptoRow : OpenClaim := { program := "ytaloedccoadedaadoor", sum := "296f94e83776fd92e99473b2a04d410055c4c47c46fd1dc91f3579540c5f8fdb", func := "coble/coblelaw03.FixesSources", spec := "fixesSources", unfollowed := true, recurses := true, named := ["coble/chart.ways", "math/bits.deBruijn32tab", "math/bits.deBruijn64tab"], apart := false, laid := [("math/bits.deBruijn32tab", laid_math_bits_deBruijn32tab), ("math/bits.deBruijn64tab", laid_math_bits_deBruijn64tab), ("coble/chart.ways", laid_coble_chart_ways)], narrowed := true }
def FixesSourcesUptoSaid : Prop := fixesSourcesUptoRow.holds Tryd.pinned (OpenSpec.upto fixesSourcesSpec)

/-- 'coblelaw03.FixesMany', WHERE WHAT IT READS IS OF BULK AT MOST 1048576: true; the input reads as it did. -/
def fixesManyUptoRow : OpenClaim := { program := "ytaloedccoadedaadoor", sum := "296f94e83776fd92e99473b2a04d410055c4c47c46fd1dc91f3579540c5f8fdb", func := "coble/coblelaw03.FixesMany", spec := "fixesMany", unfollowed := true, recurses := true, named := ["coble/chart.ways", "math/bits.deBruijn32tab", "math/bits.deBruijn64tab"], apart := false, laid := [("math/bits.deBruijn32tab", laid_math_bits_deBruijn32tab), ("math/bits.deBruijn64tab", laid_math_bits_deBruijn64tab), ("coble/chart.ways", laid_coble_chart_ways)], narrowed := true }
def FixesManyUptoSaid : Prop := fixesManyUptoRow.holds Tryd.pinned (OpenSpec.upto fixesManySpec)

/-- 'coblelaw03.FixesLeast', WHERE WHAT IT READS IS OF BULK AT MOST 1048576: true; the input reads as it did. -/
def fixesLeastUptoRow : OpenClaim := { program := "ytaloedccoadedaadoor", sum := "296f94e83776fd92e99473b2a04d410055c4c47c46fd1dc91f3579540c5f8fdb", func := "coble/coblelaw03.FixesLeast", spec := "fixesLeast", unfollowed := true, recurses := true, named := ["coble/chart.ways", "math/bits.deBruijn32tab", "math/bits.deBruijn64tab"], apart := false, laid := [("math/bits.deBruijn32tab", laid_math_bits_deBruijn32tab), ("math/bits.deBruijn64tab", laid_math_bits_deBruijn64tab), ("coble/chart.ways", laid_coble_chart_ways)], narrowed := true }
def FixesLeastUptoSaid : Prop := fixesLeastUptoRow.holds Tryd.pinned (OpenSpec.upto fixesLeastSpec)

/-- 'coblelaw03.FixesReasons', WHERE WHAT IT READS IS OF BULK AT MOST 1048576: true; the input reads as it did. -/
def fixesReasonsUptoRow : OpenClaim := { program := "ytaloedccoadedaadoor", sum := "296f94e83776fd92e99473b2a04d410055c4c47c46fd1dc91f3579540c5f8fdb", func := "coble/coblelaw03.FixesReasons", spec := "fixesReasons", unfollowed := true, recurses := true, named := ["coble/chart.ways", "math/bits.deBruijn32tab", "math/bits.deBruijn64tab"], apart := false, laid := [("math/bits.deBruijn32tab", laid_math_bits_deBruijn32tab), ("math/bits.deBruijn64tab", laid_math_bits_deBruijn64tab), ("coble/chart.ways", laid_coble_chart_ways)], narrowed := true }
def FixesReasonsUptoSaid : Prop := fixesReasonsUptoRow.holds Tryd.pinned (OpenSpec.upto fixesReasonsSpec)

end Rows
end Go.Proofs.YtaloedccoadedaaDoor
