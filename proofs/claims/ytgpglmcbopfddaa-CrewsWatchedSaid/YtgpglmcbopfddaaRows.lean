/-
  No cell of these rows narrows 'for every input' (looked for: loops, veiled, ifaces, maps, wideKeys, modest, calm, conditions, laid).
  DERIVED. THE GIVEN ROWS OF THIS SEAT. 4 by the template 'for every input the law returns true; each argument reads behind the call as it read before'; 0 by the template 'total and deterministic' (their statements: YtgpglmcbopfddaaTotals.lean).
  GIVEN WITH THE SEED: the statements are not yours to turn. If you find one false, say at which input.
  Laid BY PROGRAM, IN A SANDBOX (cutbox-rows.mjs): the forced cells as the released guide's own fill.sh prints them over the translation 59e6c4052a3e124e… (all of the seat's roots in one cut). By AI agents, Wed Nov 11 2026. No macro, syntax, notation, axiom, sorry.
-/
import Derived.Test.YtgpglmcbopfddaaChecked
import GoSem.Claim
import GoSem.ClaimJoined
import GoSem.ClaimMapViews
import Derived.JoinedTies
import Derived.KernelRfl
namespace Go.Proofs.Ytgpglmcbopfddaa
/- THE CELL 'sum', in the pinned program and in every row, IS THE sha256 OF THE DUMP (.gsa) THAT YtgpglmcbopfddaaProg.lean LOADS. Nothing in Lean hashes anything: it is a label: what it is worth is what the hold of that sum in a sandbox is worth. -/
noncomputable def Try.pinned : Pinned := { name := "ytgpglmcbopfddaa", sum := "59e6c4052a3e124e9744d7a284a104c8eff99dc80227fb0f54726a2e6730c83c", checked := Try.checked }
namespace Rows
def none {H : Type} : Left H := { results := [], args := [] }

/-- 'coblelaw07.CrewsWhoever': WHATEVER THE INPUT: true; the input reads as it did. -/
def crewsWhoeverSpec : ChangeSpec := { name := "crewsWhoever", fn := fun _ => fun
  | [d1, d2, d3] => { results := [.lit (.bool true)], args := [d1, d2, d3] }
  | _ => none }
def crewsWhoeverRow : OpenClaim := { program := "ytgpglmcbopfddaa", sum := "59e6c4052a3e124e9744d7a284a104c8eff99dc80227fb0f54726a2e6730c83c", func := "coble/coblelaw07.CrewsWhoever", spec := "crewsWhoever", unfollowed := true, recurses := true, apart := false }
def CrewsWhoeverSaid : Prop := crewsWhoeverRow.holds Try.pinned (OpenSpec.ofChange crewsWhoeverSpec)

/-- ITS FALSE NEIGHBOUR: 'it returns false'. Refute it at one input. -/
def crewsWhoeverWrong : ChangeSpec := { name := "crewsWhoever", fn := fun _ => fun
  | [d1, d2, d3] => { results := [.lit (.bool false)], args := [d1, d2, d3] }
  | _ => none }
def CrewsWhoeverWrongFalsely : Prop := crewsWhoeverRow.holds Try.pinned (OpenSpec.ofChange crewsWhoeverWrong)

/-- 'coblelaw07.CrewsAnyone': WHATEVER THE INPUT: true; the input reads as it did. -/
def crewsAnyoneSpec : ChangeSpec := { name := "crewsAnyone", fn := fun _ => fun
  | [d1, d2, d3, d4] => { results := [.lit (.bool true)], args := [d1, d2, d3, d4] }
  | _ => none }
def crewsAnyoneRow : OpenClaim := { program := "ytgpglmcbopfddaa", sum := "59e6c4052a3e124e9744d7a284a104c8eff99dc80227fb0f54726a2e6730c83c", func := "coble/coblelaw07.CrewsAnyone", spec := "crewsAnyone", unfollowed := true, recurses := true, apart := false }
def CrewsAnyoneSaid : Prop := crewsAnyoneRow.holds Try.pinned (OpenSpec.ofChange crewsAnyoneSpec)

/-- ITS FALSE NEIGHBOUR: 'it returns false'. Refute it at one input. -/
def crewsAnyoneWrong : ChangeSpec := { name := "crewsAnyone", fn := fun _ => fun
  | [d1, d2, d3, d4] => { results := [.lit (.bool false)], args := [d1, d2, d3, d4] }
  | _ => none }
def CrewsAnyoneWrongFalsely : Prop := crewsAnyoneRow.holds Try.pinned (OpenSpec.ofChange crewsAnyoneWrong)

/-- 'coblelaw07.CrewsWatches': WHATEVER THE INPUT: true; the input reads as it did. -/
def crewsWatchesSpec : ChangeSpec := { name := "crewsWatches", fn := fun _ => fun
  | [d1, d2, d3] => { results := [.lit (.bool true)], args := [d1, d2, d3] }
  | _ => none }
def crewsWatchesRow : OpenClaim := { program := "ytgpglmcbopfddaa", sum := "59e6c4052a3e124e9744d7a284a104c8eff99dc80227fb0f54726a2e6730c83c", func := "coble/coblelaw07.CrewsWatches", spec := "crewsWatches", unfollowed := true, recurses := true, apart := false }
def CrewsWatchesSaid : Prop := crewsWatchesRow.holds Try.pinned (OpenSpec.ofChange crewsWatchesSpec)

/-- ITS FALSE NEIGHBOUR: 'it returns false'. Refute it at one input. -/
def crewsWatchesWrong : ChangeSpec := { name := "crewsWatches", fn := fun _ => fun
  | [d1, d2, d3] => { results := [.lit (.bool false)], args := [d1, d2, d3] }
  | _ => none }
def CrewsWatchesWrongFalsely : Prop := crewsWatchesRow.holds Try.pinned (OpenSpec.ofChange crewsWatchesWrong)

/-- 'coblelaw07.CrewsWatched': WHATEVER THE INPUT: true; the input reads as it did. -/
def crewsWatchedSpec : ChangeSpec := { name := "crewsWatched", fn := fun _ => fun
  | [d1, d2] => { results := [.lit (.bool true)], args := [d1, d2] }
  | _ => none }
def crewsWatchedRow : OpenClaim := { program := "ytgpglmcbopfddaa", sum := "59e6c4052a3e124e9744d7a284a104c8eff99dc80227fb0f54726a2e6730c83c", func := "coble/coblelaw07.CrewsWatched", spec := "crewsWatched", unfollowed := true, recurses := true, apart := false }
def CrewsWatchedSaid : Prop := crewsWatchedRow.holds Try.pinned (OpenSpec.ofChange crewsWatchedSpec)

/-- ITS FALSE NEIGHBOUR: 'it returns false'. Refute it at one input. -/
def crewsWatchedWrong : ChangeSpec := { name := "crewsWatched", fn := fun _ => fun
  | [d1, d2] => { results := [.lit (.bool false)], args := [d1, d2] }
  | _ => none }
def CrewsWatchedWrongFalsely : Prop := crewsWatchedRow.holds Try.pinned (OpenSpec.ofChange crewsWatchedWrong)

/- THE SECOND FORM. 'bulk': how many values and letters a reading holds, each counted each time it is reached (what is shared counts as often as it is met; a slice's spare places count too). A statement '..UptoSaid' is the law's where the arguments, and the package variables that the reading takes, are together of bulk at most 1048576: NARROWER than '..Said'. Prove '..Said' where nothing that the law and all that it calls make is longer than what came in: it says more and counts as full. Else prove '..UptoSaid'. A law counts once. -/
mutual
def uptoBulk {H : Type} : DataW H → Nat
  | .lit (.string bytes) => bytes.length + 1
  | .lit _ => 1
  | .nil => 1
  | .ptr d => uptoBulk d + 1
  | .slice elems spare => uptoBulkAll elems + uptoBulkAll spare + 1
  | .agg parts => uptoBulkAll parts + 1
  | .iface _ d => uptoBulk d + 1
  | .map entries => uptoBulkEntries entries + 1
  | .held _ => 1
def uptoBulkAll {H : Type} : List (DataW H) → Nat
  | [] => 0
  | d :: r => uptoBulk d + uptoBulkAll r
def uptoBulkEntries {H : Type} : List (Lit × DataW H) → Nat
  | [] => 0
  | x :: r => uptoBulkEntry x + uptoBulkEntries r
def uptoBulkEntry {H : Type} : Lit × DataW H → Nat
  | (.string bytes, d) => bytes.length + uptoBulk d + 1
  | (_, d) => uptoBulk d + 1
 end
def uptoSmall : (H : Type) → List (DataW H) → Bool := fun _ ds => decide (uptoBulkAll ds ≤ 1048576)
def OpenSpec.upto (s : _root_.Go.ChangeSpec) : _root_.Go.OpenSpec := { _root_.Go.OpenSpec.ofChange s with cond := some uptoSmall }

/-- 'coblelaw07.CrewsWhoever', WHERE WHAT IT READS IS OF BULK AT MOST 1048576: true; the input reads as it did. -/
def crewsWhoeverUptoRow : OpenClaim := { program := "ytgpglmcbopfddaa", sum := "59e6c4052a3e124e9744d7a284a104c8eff99dc80227fb0f54726a2e6730c83c", func := "coble/coblelaw07.CrewsWhoever", spec := "crewsWhoever", unfollowed := true, recurses := true, apart := false, narrowed := true }
def CrewsWhoeverUptoSaid : Prop := crewsWhoeverUptoRow.holds Try.pinned (OpenSpec.upto crewsWhoeverSpec)

/-- 'coblelaw07.CrewsAnyone', WHERE WHAT IT READS IS OF BULK AT MOST 1048576: true; the input reads as it did. -/
def crewsAnyoneUptoRow : OpenClaim := { program := "ytgpglmcbopfddaa", sum := "59e6c4052a3e124e9744d7a284a104c8eff99dc80227fb0f54726a2e6730c83c", func := "coble/coblelaw07.CrewsAnyone", spec := "crewsAnyone", unfollowed := true, recurses := true, apart := false, narrowed := true }
def CrewsAnyoneUptoSaid : Prop := crewsAnyoneUptoRow.holds Try.pinned (OpenSpec.upto crewsAnyoneSpec)

/-- 'coblelaw07.CrewsWatches', WHERE WHAT IT READS IS OF BULK AT MOST 1048576: true; the input reads as it did. -/
def crewsWatchesUptoRow : OpenClaim := { program := "ytgpglmcbopfddaa", sum := "59e6c4052a3e124e9744d7a284a104c8eff99dc80227fb0f54726a2e6730c83c", func := "coble/coblelaw07.CrewsWatches", spec := "crewsWatches", unfollowed := true, recurses := true, apart := false, narrowed := true }
def CrewsWatchesUptoSaid : Prop := crewsWatchesUptoRow.holds Try.pinned (OpenSpec.upto crewsWatchesSpec)

/-- 'coblelaw07.CrewsWatched', WHERE WHAT IT READS IS OF BULK AT MOST 1048576: true; the input reads as it did. -/
def crewsWatchedUptoRow : OpenClaim := { program := "ytgpglmcbopfddaa", sum := "59e6c4052a3e124e9744d7a284a104c8eff99dc80227fb0f54726a2e6730c83c", func := "coble/coblelaw07.CrewsWatched", spec := "crewsWatched", unfollowed := true, recurses := true, apart := false, narrowed := true }
def CrewsWatchedUptoSaid : Prop := crewsWatchedUptoRow.holds Try.pinned (OpenSpec.upto crewsWatchedSpec)

end Rows
end Go.Proofs.Ytgpglmcbopfddaa
