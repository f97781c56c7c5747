/-
  No cell of these rows narrows 'for every input' (looked for: loops, veiled, ifaces, maps, wideKeys, modest, calm, conditions, laid).
  DERIVED. THE GIVEN ROWS OF THIS SEAT. 13 by the template 'for every input the law returns true; each argument reads behind the call as it read before'; 0 by the template 'total and deterministic' (their statements: YtlbcgkoncnablaaTotals.lean).
  GIVEN WITH THE SEED: the statements are not yours to turn. If you find one false, say at which input.
  Laid BY PROGRAM, IN A SANDBOX (cutbox-rows.mjs): the forced cells as the released guide's own fill.sh prints them over the translation 13aa29bd8eb0f067… (all of the seat's roots in one cut). By AI agents, Wed Nov 11 2026. No macro, syntax, notation, axiom, sorry.
-/
import Derived.Test.YtlbcgkoncnablaaChecked
import GoSem.Claim
import GoSem.ClaimJoined
import GoSem.ClaimMapViews
import Derived.JoinedTies
import Derived.KernelRfl
namespace Go.Proofs.Ytlbcgkoncnablaa
/- THE CELL 'sum', in the pinned program and in every row, IS THE sha256 OF THE DUMP (.gsa) THAT YtlbcgkoncnablaaProg.lean LOADS. Nothing in Lean hashes anything: it is a label: what it is worth is what the hold of that sum in a sandbox is worth. -/
noncomputable def Try.pinned : Pinned := { name := "ytlbcgkoncnablaa", sum := "13aa29bd8eb0f067816e1baf9569816a68c43983ed212590602dcb53a26a6e81", checked := Try.checked }
namespace Rows
def none {H : Type} : Left H := { results := [], args := [] }

/-- 'coblelaw07.CrewsSpare': WHATEVER THE INPUT: true; the input reads as it did. -/
def crewsSpareSpec : ChangeSpec := { name := "crewsSpare", fn := fun _ => fun
  | [d1, d2, d3] => { results := [.lit (.bool true)], args := [d1, d2, d3] }
  | _ => none }
def crewsSpareRow : OpenClaim := { program := "ytlbcgkoncnablaa", sum := "13aa29bd8eb0f067816e1baf9569816a68c43983ed212590602dcb53a26a6e81", func := "coble/coblelaw07.CrewsSpare", spec := "crewsSpare", unfollowed := true, recurses := true, apart := false }
def CrewsSpareSaid : Prop := crewsSpareRow.holds Try.pinned (OpenSpec.ofChange crewsSpareSpec)

/-- ITS FALSE NEIGHBOUR: 'it returns false'. Refute it at one input. -/
def crewsSpareWrong : ChangeSpec := { name := "crewsSpare", fn := fun _ => fun
  | [d1, d2, d3] => { results := [.lit (.bool false)], args := [d1, d2, d3] }
  | _ => none }
def CrewsSpareWrongFalsely : Prop := crewsSpareRow.holds Try.pinned (OpenSpec.ofChange crewsSpareWrong)

/-- 'coblelaw07.CrewsRested': WHATEVER THE INPUT: true; the input reads as it did. -/
def crewsRestedSpec : ChangeSpec := { name := "crewsRested", fn := fun _ => fun
  | [d1, d2, d3] => { results := [.lit (.bool true)], args := [d1, d2, d3] }
  | _ => none }
def crewsRestedRow : OpenClaim := { program := "ytlbcgkoncnablaa", sum := "13aa29bd8eb0f067816e1baf9569816a68c43983ed212590602dcb53a26a6e81", func := "coble/coblelaw07.CrewsRested", spec := "crewsRested", unfollowed := true, recurses := true, apart := false }
def CrewsRestedSaid : Prop := crewsRestedRow.holds Try.pinned (OpenSpec.ofChange crewsRestedSpec)

/-- ITS FALSE NEIGHBOUR: 'it returns false'. Refute it at one input. -/
def crewsRestedWrong : ChangeSpec := { name := "crewsRested", fn := fun _ => fun
  | [d1, d2, d3] => { results := [.lit (.bool false)], args := [d1, d2, d3] }
  | _ => none }
def CrewsRestedWrongFalsely : Prop := crewsRestedRow.holds Try.pinned (OpenSpec.ofChange crewsRestedWrong)

/-- 'coblelaw07.CrewsSooner': WHATEVER THE INPUT: true; the input reads as it did. -/
def crewsSoonerSpec : ChangeSpec := { name := "crewsSooner", fn := fun _ => fun
  | [d1, d2, d3, d4] => { results := [.lit (.bool true)], args := [d1, d2, d3, d4] }
  | _ => none }
def crewsSoonerRow : OpenClaim := { program := "ytlbcgkoncnablaa", sum := "13aa29bd8eb0f067816e1baf9569816a68c43983ed212590602dcb53a26a6e81", func := "coble/coblelaw07.CrewsSooner", spec := "crewsSooner", unfollowed := true, recurses := true, apart := false }
def CrewsSoonerSaid : Prop := crewsSoonerRow.holds Try.pinned (OpenSpec.ofChange crewsSoonerSpec)

/-- ITS FALSE NEIGHBOUR: 'it returns false'. Refute it at one input. -/
def crewsSoonerWrong : ChangeSpec := { name := "crewsSooner", fn := fun _ => fun
  | [d1, d2, d3, d4] => { results := [.lit (.bool false)], args := [d1, d2, d3, d4] }
  | _ => none }
def CrewsSoonerWrongFalsely : Prop := crewsSoonerRow.holds Try.pinned (OpenSpec.ofChange crewsSoonerWrong)

/-- 'coblelaw07.CrewsEasier': WHATEVER THE INPUT: true; the input reads as it did. -/
def crewsEasierSpec : ChangeSpec := { name := "crewsEasier", fn := fun _ => fun
  | [d1, d2, d3, d4] => { results := [.lit (.bool true)], args := [d1, d2, d3, d4] }
  | _ => none }
def crewsEasierRow : OpenClaim := { program := "ytlbcgkoncnablaa", sum := "13aa29bd8eb0f067816e1baf9569816a68c43983ed212590602dcb53a26a6e81", func := "coble/coblelaw07.CrewsEasier", spec := "crewsEasier", unfollowed := true, recurses := true, apart := false }
def CrewsEasierSaid : Prop := crewsEasierRow.holds Try.pinned (OpenSpec.ofChange crewsEasierSpec)

/-- ITS FALSE NEIGHBOUR: 'it returns false'. Refute it at one input. -/
def crewsEasierWrong : ChangeSpec := { name := "crewsEasier", fn := fun _ => fun
  | [d1, d2, d3, d4] => { results := [.lit (.bool false)], args := [d1, d2, d3, d4] }
  | _ => none }
def CrewsEasierWrongFalsely : Prop := crewsEasierRow.holds Try.pinned (OpenSpec.ofChange crewsEasierWrong)

/-- 'coblelaw07.CrewsTold': WHATEVER THE INPUT: true; the input reads as it did. -/
def crewsToldSpec : ChangeSpec := { name := "crewsTold", fn := fun _ => fun
  | [d1, d2, d3] => { results := [.lit (.bool true)], args := [d1, d2, d3] }
  | _ => none }
def crewsToldRow : OpenClaim := { program := "ytlbcgkoncnablaa", sum := "13aa29bd8eb0f067816e1baf9569816a68c43983ed212590602dcb53a26a6e81", func := "coble/coblelaw07.CrewsTold", spec := "crewsTold", unfollowed := true, recurses := true, apart := false }
def CrewsToldSaid : Prop := crewsToldRow.holds Try.pinned (OpenSpec.ofChange crewsToldSpec)

/-- ITS FALSE NEIGHBOUR: 'it returns false'. Refute it at one input. -/
def crewsToldWrong : ChangeSpec := { name := "crewsTold", fn := fun _ => fun
  | [d1, d2, d3] => { results := [.lit (.bool false)], args := [d1, d2, d3] }
  | _ => none }
def CrewsToldWrongFalsely : Prop := crewsToldRow.holds Try.pinned (OpenSpec.ofChange crewsToldWrong)

/-- 'coblelaw07.CrewsAnswers': WHATEVER THE INPUT: true; the input reads as it did. -/
def crewsAnswersSpec : ChangeSpec := { name := "crewsAnswers", fn := fun _ => fun
  | [d1, d2, d3] => { results := [.lit (.bool true)], args := [d1, d2, d3] }
  | _ => none }
def crewsAnswersRow : OpenClaim := { program := "ytlbcgkoncnablaa", sum := "13aa29bd8eb0f067816e1baf9569816a68c43983ed212590602dcb53a26a6e81", func := "coble/coblelaw07.CrewsAnswers", spec := "crewsAnswers", unfollowed := true, recurses := true, apart := false }
def CrewsAnswersSaid : Prop := crewsAnswersRow.holds Try.pinned (OpenSpec.ofChange crewsAnswersSpec)

/-- ITS FALSE NEIGHBOUR: 'it returns false'. Refute it at one input. -/
def crewsAnswersWrong : ChangeSpec := { name := "crewsAnswers", fn := fun _ => fun
  | [d1, d2, d3] => { results := [.lit (.bool false)], args := [d1, d2, d3] }
  | _ => none }
def CrewsAnswersWrongFalsely : Prop := crewsAnswersRow.holds Try.pinned (OpenSpec.ofChange crewsAnswersWrong)

/-- 'coblelaw07.CrewsCurrent': WHATEVER THE INPUT: true; the input reads as it did. -/
def crewsCurrentSpec : ChangeSpec := { name := "crewsCurrent", fn := fun _ => fun
  | [d1, d2] => { results := [.lit (.bool true)], args := [d1, d2] }
  | _ => none }
def crewsCurrentRow : OpenClaim := { program := "ytlbcgkoncnablaa", sum := "13aa29bd8eb0f067816e1baf9569816a68c43983ed212590602dcb53a26a6e81", func := "coble/coblelaw07.CrewsCurrent", spec := "crewsCurrent", unfollowed := true, recurses := true, apart := false }
def CrewsCurrentSaid : Prop := crewsCurrentRow.holds Try.pinned (OpenSpec.ofChange crewsCurrentSpec)

/-- ITS FALSE NEIGHBOUR: 'it returns false'. Refute it at one input. -/
def crewsCurrentWrong : ChangeSpec := { name := "crewsCurrent", fn := fun _ => fun
  | [d1, d2] => { results := [.lit (.bool false)], args := [d1, d2] }
  | _ => none }
def CrewsCurrentWrongFalsely : Prop := crewsCurrentRow.holds Try.pinned (OpenSpec.ofChange crewsCurrentWrong)

/-- 'coblelaw07.CrewsMusters': WHATEVER THE INPUT: true; the input reads as it did. -/
def crewsMustersSpec : ChangeSpec := { name := "crewsMusters", fn := fun _ => fun
  | [d1, d2] => { results := [.lit (.bool true)], args := [d1, d2] }
  | _ => none }
def crewsMustersRow : OpenClaim := { program := "ytlbcgkoncnablaa", sum := "13aa29bd8eb0f067816e1baf9569816a68c43983ed212590602dcb53a26a6e81", func := "coble/coblelaw07.CrewsMusters", spec := "crewsMusters", unfollowed := true, recurses := true, apart := false }
def CrewsMustersSaid : Prop := crewsMustersRow.holds Try.pinned (OpenSpec.ofChange crewsMustersSpec)

/-- ITS FALSE NEIGHBOUR: 'it returns false'. Refute it at one input. -/
def crewsMustersWrong : ChangeSpec := { name := "crewsMusters", fn := fun _ => fun
  | [d1, d2] => { results := [.lit (.bool false)], args := [d1, d2] }
  | _ => none }
def CrewsMustersWrongFalsely : Prop := crewsMustersRow.holds Try.pinned (OpenSpec.ofChange crewsMustersWrong)

/-- 'coblelaw07.CrewsLack': WHATEVER THE INPUT: true; the input reads as it did. -/
def crewsLackSpec : ChangeSpec := { name := "crewsLack", fn := fun _ => fun
  | [d1, d2] => { results := [.lit (.bool true)], args := [d1, d2] }
  | _ => none }
def crewsLackRow : OpenClaim := { program := "ytlbcgkoncnablaa", sum := "13aa29bd8eb0f067816e1baf9569816a68c43983ed212590602dcb53a26a6e81", func := "coble/coblelaw07.CrewsLack", spec := "crewsLack", unfollowed := true, recurses := true, apart := false }
def CrewsLackSaid : Prop := crewsLackRow.holds Try.pinned (OpenSpec.ofChange crewsLackSpec)

/-- ITS FALSE NEIGHBOUR: 'it returns false'. Refute it at one input. -/
def crewsLackWrong : ChangeSpec := { name := "crewsLack", fn := fun _ => fun
  | [d1, d2] => { results := [.lit (.bool false)], args := [d1, d2] }
  | _ => none }
def CrewsLackWrongFalsely : Prop := crewsLackRow.holds Try.pinned (OpenSpec.ofChange crewsLackWrong)

/-- 'coblelaw07.CrewsWhoever': WHATEVER THE INPUT: true; the input reads as it did. -/
def crewsWhoeverSpec : ChangeSpec := { name := "crewsWhoever", fn := fun _ => fun
  | [d1, d2, d3] => { results := [.lit (.bool true)], args := [d1, d2, d3] }
  | _ => none }
def crewsWhoeverRow : OpenClaim := { program := "ytlbcgkoncnablaa", sum := "13aa29bd8eb0f067816e1baf9569816a68c43983ed212590602dcb53a26a6e81", func := "coble/coblelaw07.CrewsWhoever", spec := "crewsWhoever", unfollowed := true, recurses := true, apart := false }
def CrewsWhoeverSaid : Prop := crewsWhoeverRow.holds Try.pinned (OpenSpec.ofChange crewsWhoeverSpec)

/-- ITS FALSE NEIGHBOUR: 'it returns false'. Refute it at one input. -/
def crewsWhoeverWrong : ChangeSpec := { name := "crewsWhoever", fn := fun _ => fun
  | [d1, d2, d3] => { results := [.lit (.bool false)], args := [d1, d2, d3] }
  | _ => none }
def CrewsWhoeverWrongFalsely : Prop := crewsWhoeverRow.holds Try.pinned (OpenSpec.ofChange crewsWhoeverWrong)

/-- 'coblelaw07.CrewsAnyone': WHATEVER THE INPUT: true; the input reads as it did. -/
def crewsAnyoneSpec : ChangeSpec := { name := "crewsAnyone", fn := fun _ => fun
  | [d1, d2, d3, d4] => { results := [.lit (.bool true)], args := [d1, d2, d3, d4] }
  | _ => none }
def crewsAnyoneRow : OpenClaim := { program := "ytlbcgkoncnablaa", sum := "13aa29bd8eb0f067816e1baf9569816a68c43983ed212590602dcb53a26a6e81", func := "coble/coblelaw07.CrewsAnyone", spec := "crewsAnyone", unfollowed := true, recurses := true, apart := false }
def CrewsAnyoneSaid : Prop := crewsAnyoneRow.holds Try.pinned (OpenSpec.ofChange crewsAnyoneSpec)

/-- ITS FALSE NEIGHBOUR: 'it returns false'. Refute it at one input. -/
def crewsAnyoneWrong : ChangeSpec := { name := "crewsAnyone", fn := fun _ => fun
  | [d1, d2, d3, d4] => { results := [.lit (.bool false)], args := [d1, d2, d3, d4] }
  | _ => none }
def CrewsAnyoneWrongFalsely : Prop := crewsAnyoneRow.holds Try.pinned (OpenSpec.ofChange crewsAnyoneWrong)

/-- 'coblelaw07.CrewsWatches': WHATEVER THE INPUT: true; the input reads as it did. -/
def crewsWatchesSpec : ChangeSpec := { name := "crewsWatches", fn := fun _ => fun
  | [d1, d2, d3] => { results := [.lit (.bool true)], args := [d1, d2, d3] }
  | _ => none }
def crewsWatchesRow : OpenClaim := { program := "ytlbcgkoncnablaa", sum := "13aa29bd8eb0f067816e1baf9569816a68c43983ed212590602dcb53a26a6e81", func := "coble/coblelaw07.CrewsWatches", spec := "crewsWatches", unfollowed := true, recurses := true, apart := false }
def CrewsWatchesSaid : Prop := crewsWatchesRow.holds Try.pinned (OpenSpec.ofChange crewsWatchesSpec)

/-- ITS FALSE NEIGHBOUR: 'it returns false'. Refute it at one input. -/
def crewsWatchesWrong : ChangeSpec := { name := "crewsWatches", fn := fun _ => fun
  | [d1, d2, d3] => { results := [.lit (.bool false)], args := [d1, d2, d3] }
  | _ => none }
def CrewsWatchesWrongFalsely : Prop := crewsWatchesRow.holds Try.pinned (OpenSpec.ofChange crewsWatchesWrong)

/-- 'coblelaw07.CrewsWatched': WHATEVER THE INPUT: true; the input reads as it did. -/
def crewsWatchedSpec : ChangeSpec := { name := "crewsWatched", fn := fun _ => fun
  | [d1, d2] => { results := [.lit (.bool true)], args := [d1, d2] }
  | _ => none }
def crewsWatchedRow : OpenClaim := { program := "ytlbcgkoncnablaa", sum := "13aa29bd8eb0f067816e1baf9569816a68c43983ed212590602dcb53a26a6e81", func := "coble/coblelaw07.CrewsWatched", spec := "crewsWatched", unfollowed := true, recurses := true, apart := false }
def CrewsWatchedSaid : Prop := crewsWatchedRow.holds Try.pinned (OpenSpec.ofChange crewsWatchedSpec)

/-- ITS FALSE NEIGHBOUR: 'it returns false'. Refute it at one input. -/
def crewsWatchedWrong : ChangeSpec := { name := "crewsWatched", fn := fun _ => fun
  | [d1, d2] => { results := [.lit (.bool false)], args := [d1, d2] }
  | _ => none }
def CrewsWatchedWrongFalsely : Prop := crewsWatchedRow.holds Try.pinned (OpenSpec.ofChange crewsWatchedWrong)

/- THE SECOND FORM. 'bulk': how many values and letters a reading holds, each counted each time it is reached (what is shared counts as often as it is met; a slice's spare places count too). A statement '..UptoSaid' is the law's where the arguments, and the package variables that the reading takes, are together of bulk at most 1048576: NARROWER than '..Said'. Prove '..Said' where nothing that the law and all that it calls make is longer than what came in: it says more and counts as full. Else prove '..UptoSaid'. A law counts once. -/
mutual
def uptoBulk {H : Type} : DataW H → Nat
  | .lit (.string bytes) => bytes.length + 1
  | .lit _ => 1
  | .nil => 1
  | .ptr d => uptoBulk d + 1
  | .slice elems spare => uptoBulkAll elems + uptoBulkAll spare + 1
  | .agg parts => uptoBulkAll parts + 1
  | .iface _ d => uptoBulk d + 1
  | .map entries => uptoBulkEntries entries + 1
  | .held _ => 1
def uptoBulkAll {H : Type} : List (DataW H) → Nat
  | [] => 0
  | d :: r => uptoBulk d + uptoBulkAll r
def uptoBulkEntries {H : Type} : List (Lit × DataW H) → Nat
  | [] => 0
  | x :: r => uptoBulkEntry x + uptoBulkEntries r
def uptoBulkEntry {H : Type} : Lit × DataW H → Nat
  | (.string bytes, d) => bytes.length + uptoBulk d + 1
  | (_, d) => uptoBulk d + 1
 end
def uptoSmall : (H : Type) → List (DataW H) → Bool := fun _ ds => decide (uptoBulkAll ds ≤ 1048576)
def OpenSpec.upto (s : _root_.Go.ChangeSpec) : _root_.Go.OpenSpec := { _root_.Go.OpenSpec.ofChange s with cond := some uptoSmall }

/-- 'coblelaw07.CrewsSpare', WHERE WHAT IT READS IS OF BULK AT MOST 1048576: true; the input reads as it did. -/
def crewsSpareUptoRow : OpenClaim := { program := "ytlbcgkoncnablaa", sum := "13aa29bd8eb0f067816e1baf9569816a68c43983ed212590602dcb53a26a6e81", func := "coble/coblelaw07.CrewsSpare", spec := "crewsSpare", unfollowed := true, recurses := true, apart := false, narrowed := true }
def CrewsSpareUptoSaid : Prop := crewsSpareUptoRow.holds Try.pinned (OpenSpec.upto crewsSpareSpec)

/-- 'coblelaw07.CrewsRested', WHERE WHAT IT READS IS OF BULK AT MOST 1048576: true; the input reads as it did. -/
def crewsRestedUptoRow : OpenClaim := { program := "ytlbcgkoncnablaa", sum := "13aa29bd8eb0f067816e1baf9569816a68c43983ed212590602dcb53a26a6e81", func := "coble/coblelaw07.CrewsRested", spec := "crewsRested", unfollowed := true, recurses := true, apart := false, narrowed := true }
def CrewsRestedUptoSaid : Prop := crewsRestedUptoRow.holds Try.pinned (OpenSpec.upto crewsRestedSpec)

/-- 'coblelaw07.CrewsSooner', WHERE WHAT IT READS IS OF BULK AT MOST 1048576: true; the input reads as it did. -/
def crewsSoonerUptoRow : OpenClaim := { program := "ytlbcgkoncnablaa", sum := "13aa29bd8eb0f067816e1baf9569816a68c43983ed212590602dcb53a26a6e81", func := "coble/coblelaw07.CrewsSooner", spec := "crewsSooner", unfollowed := true, recurses := true, apart := false, narrowed := true }
def CrewsSoonerUptoSaid : Prop := crewsSoonerUptoRow.holds Try.pinned (OpenSpec.upto crewsSoonerSpec)

/-- 'coblelaw07.CrewsEasier', WHERE WHAT IT READS IS OF BULK AT MOST 1048576: true; the input reads as it did. -/
def crewsEasierUptoRow : OpenClaim := { program := "ytlbcgkoncnablaa", sum := "13aa29bd8eb0f067816e1baf9569816a68c43983ed212590602dcb53a26a6e81", func := "coble/coblelaw07.CrewsEasier", spec := "crewsEasier", unfollowed := true, recurses := true, apart := false, narrowed := true }
def CrewsEasierUptoSaid : Prop := crewsEasierUptoRow.holds Try.pinned (OpenSpec.upto crewsEasierSpec)

/-- 'coblelaw07.CrewsTold', WHERE WHAT IT READS IS OF BULK AT MOST 1048576: true; the input reads as it did. -/
def crewsToldUptoRow : OpenClaim := { program := "ytlbcgkoncnablaa", sum := "13aa29bd8eb0f067816e1baf9569816a68c43983ed212590602dcb53a26a6e81", func := "coble/coblelaw07.CrewsTold", spec := "crewsTold", unfollowed := true, recurses := true, apart := false, narrowed := true }
def CrewsToldUptoSaid : Prop := crewsToldUptoRow.holds Try.pinned (OpenSpec.upto crewsToldSpec)

/-- 'coblelaw07.CrewsAnswers', WHERE WHAT IT READS IS OF BULK AT MOST 1048576: true; the input reads as it did. -/
def crewsAnswersUptoRow : OpenClaim := { program := "ytlbcgkoncnablaa", sum := "13aa29bd8eb0f067816e1baf9569816a68c43983ed212590602dcb53a26a6e81", func := "coble/coblelaw07.CrewsAnswers", spec := "crewsAnswers", unfollowed := true, recurses := true, apart := false, narrowed := true }
def CrewsAnswersUptoSaid : Prop := crewsAnswersUptoRow.holds Try.pinned (OpenSpec.upto crewsAnswersSpec)

/-- 'coblelaw07.CrewsCurrent', WHERE WHAT IT READS IS OF BULK AT MOST 1048576: true; the input reads as it did. -/
def crewsCurrentUptoRow : OpenClaim := { program := "ytlbcgkoncnablaa", sum := "13aa29bd8eb0f067816e1baf9569816a68c43983ed212590602dcb53a26a6e81", func := "coble/coblelaw07.CrewsCurrent", spec := "crewsCurrent", unfollowed := true, recurses := true, apart := false, narrowed := true }
def CrewsCurrentUptoSaid : Prop := crewsCurrentUptoRow.holds Try.pinned (OpenSpec.upto crewsCurrentSpec)

/-- 'coblelaw07.CrewsMusters', WHERE WHAT IT READS IS OF BULK AT MOST 1048576: true; the input reads as it did. -/
def crewsMustersUptoRow : OpenClaim := { program := "ytlbcgkoncnablaa", sum := "13aa29bd8eb0f067816e1baf9569816a68c43983ed212590602dcb53a26a6e81", func := "coble/coblelaw07.CrewsMusters", spec := "crewsMusters", unfollowed := true, recurses := true, apart := false, narrowed := true }
def CrewsMustersUptoSaid : Prop := crewsMustersUptoRow.holds Try.pinned (OpenSpec.upto crewsMustersSpec)

/-- 'coblelaw07.CrewsLack', WHERE WHAT IT READS IS OF BULK AT MOST 1048576: true; the input reads as it did. -/
def crewsLackUptoRow : OpenClaim := { program := "ytlbcgkoncnablaa", sum := "13aa29bd8eb0f067816e1baf9569816a68c43983ed212590602dcb53a26a6e81", func := "coble/coblelaw07.CrewsLack", spec := "crewsLack", unfollowed := true, recurses := true, apart := false, narrowed := true }
def CrewsLackUptoSaid : Prop := crewsLackUptoRow.holds Try.pinned (OpenSpec.upto crewsLackSpec)

/-- 'coblelaw07.CrewsWhoever', WHERE WHAT IT READS IS OF BULK AT MOST 1048576: true; the input reads as it did. -/
def crewsWhoeverUptoRow : OpenClaim := { program := "ytlbcgkoncnablaa", sum := "13aa29bd8eb0f067816e1baf9569816a68c43983ed212590602dcb53a26a6e81", func := "coble/coblelaw07.CrewsWhoever", spec := "crewsWhoever", unfollowed := true, recurses := true, apart := false, narrowed := true }
def CrewsWhoeverUptoSaid : Prop := crewsWhoeverUptoRow.holds Try.pinned (OpenSpec.upto crewsWhoeverSpec)

/-- 'coblelaw07.CrewsAnyone', WHERE WHAT IT READS IS OF BULK AT MOST 1048576: true; the input reads as it did. -/
def crewsAnyoneUptoRow : OpenClaim := { program := "ytlbcgkoncnablaa", sum := "13aa29bd8eb0f067816e1baf9569816a68c43983ed212590602dcb53a26a6e81", func := "coble/coblelaw07.CrewsAnyone", spec := "crewsAnyone", unfollowed := true, recurses := true, apart := false, narrowed := true }
def CrewsAnyoneUptoSaid : Prop := crewsAnyoneUptoRow.holds Try.pinned (OpenSpec.upto crewsAnyoneSpec)

/-- 'coblelaw07.CrewsWatches', WHERE WHAT IT READS IS OF BULK AT MOST 1048576: true; the input reads as it did. -/
def crewsWatchesUptoRow : OpenClaim := { program := "ytlbcgkoncnablaa", sum := "13aa29bd8eb0f067816e1baf9569816a68c43983ed212590602dcb53a26a6e81", func := "coble/coblelaw07.CrewsWatches", spec := "crewsWatches", unfollowed := true, recurses := true, apart := false, narrowed := true }
def CrewsWatchesUptoSaid : Prop := crewsWatchesUptoRow.holds Try.pinned (OpenSpec.upto crewsWatchesSpec)

/-- 'coblelaw07.CrewsWatched', WHERE WHAT IT READS IS OF BULK AT MOST 1048576: true; the input reads as it did. -/
def crewsWatchedUptoRow : OpenClaim := { program := "ytlbcgkoncnablaa", sum := "13aa29bd8eb0f067816e1baf9569816a68c43983ed212590602dcb53a26a6e81", func := "coble/coblelaw07.CrewsWatched", spec := "crewsWatched", unfollowed := true, recurses := true, apart := false, narrowed := true }
def CrewsWatchedUptoSaid : Prop := crewsWatchedUptoRow.holds Try.pinned (OpenSpec.upto crewsWatchedSpec)

end Rows
end Go.Proofs.Ytlbcgkoncnablaa
