/-
  No cell of these rows narrows 'for every input' (looked for: loops, veiled, ifaces, maps, wideKeys, modest, calm, conditions, laid).
  DERIVED. THE GIVEN ROWS OF THIS SEAT. 6 by the template 'for every input the law returns true; each argument reads behind the call as it read before'; 0 by the template 'total and deterministic' (their statements: YtpfbpelkodlljaaTotals.lean).
  GIVEN WITH THE SEED: the statements are not yours to turn. If you find one false, say at which input.
  Laid BY PROGRAM, IN A SANDBOX (cutbox-rows.mjs): the forced cells as the released guide's own fill.sh prints them over the translation 5fbe0f453bddfd6b… (all of the seat's roots in one cut). By AI agents, Wed Nov 11 2026. No macro, syntax, notation, axiom, sorry.
-/
import Derived.Test.YtpfbpelkodlljaaChecked
import GoSem.Claim
import GoSem.ClaimJoined
import GoSem.ClaimMapViews
import Derived.JoinedTies
import Derived.KernelRfl
namespace Go.Proofs.Ytpfbpelkodlljaa
/- THE CELL 'sum', in the pinned program and in every row, IS THE sha256 OF THE DUMP (.gsa) THAT YtpfbpelkodlljaaProg.lean LOADS. Nothing in Lean hashes anything: it is a label: what it is worth is what the hold of that sum in a sandbox is worth. -/
noncomputable def Try.pinned : Pinned := { name := "ytpfbpelkodlljaa", sum := "5fbe0f453bddfd6bc428ca5f90c8d7b7e42508a0adca12e05b15ab4c34d22321", checked := Try.checked }
namespace Rows
def none {H : Type} : Left H := { results := [], args := [] }

/-- 'coblelaw09.TowsBuoys': WHATEVER THE INPUT: true; the input reads as it did. -/
def towsBuoysSpec : ChangeSpec := { name := "towsBuoys", fn := fun _ => fun
  | [d1, d2, d3] => { results := [.lit (.bool true)], args := [d1, d2, d3] }
  | _ => none }
def towsBuoysRow : OpenClaim := { program := "ytpfbpelkodlljaa", sum := "5fbe0f453bddfd6bc428ca5f90c8d7b7e42508a0adca12e05b15ab4c34d22321", func := "coble/coblelaw09.TowsBuoys", spec := "towsBuoys", unfollowed := true, recurses := true, apart := false }
def TowsBuoysSaid : Prop := towsBuoysRow.holds Try.pinned (OpenSpec.ofChange towsBuoysSpec)

/-- ITS FALSE NEIGHBOUR: 'it returns false'. Refute it at one input. -/
def towsBuoysWrong : ChangeSpec := { name := "towsBuoys", fn := fun _ => fun
  | [d1, d2, d3] => { results := [.lit (.bool false)], args := [d1, d2, d3] }
  | _ => none }
def TowsBuoysWrongFalsely : Prop := towsBuoysRow.holds Try.pinned (OpenSpec.ofChange towsBuoysWrong)

/-- 'coblelaw09.TowsWorse': WHATEVER THE INPUT: true; the input reads as it did. -/
def towsWorseSpec : ChangeSpec := { name := "towsWorse", fn := fun _ => fun
  | [d1, d2, d3] => { results := [.lit (.bool true)], args := [d1, d2, d3] }
  | _ => none }
def towsWorseRow : OpenClaim := { program := "ytpfbpelkodlljaa", sum := "5fbe0f453bddfd6bc428ca5f90c8d7b7e42508a0adca12e05b15ab4c34d22321", func := "coble/coblelaw09.TowsWorse", spec := "towsWorse", unfollowed := true, recurses := true, apart := false }
def TowsWorseSaid : Prop := towsWorseRow.holds Try.pinned (OpenSpec.ofChange towsWorseSpec)

/-- ITS FALSE NEIGHBOUR: 'it returns false'. Refute it at one input. -/
def towsWorseWrong : ChangeSpec := { name := "towsWorse", fn := fun _ => fun
  | [d1, d2, d3] => { results := [.lit (.bool false)], args := [d1, d2, d3] }
  | _ => none }
def TowsWorseWrongFalsely : Prop := towsWorseRow.holds Try.pinned (OpenSpec.ofChange towsWorseWrong)

/-- 'coblelaw09.TowsDry': WHATEVER THE INPUT: true; the input reads as it did. -/
def towsDrySpec : ChangeSpec := { name := "towsDry", fn := fun _ => fun
  | [d1, d2] => { results := [.lit (.bool true)], args := [d1, d2] }
  | _ => none }
def towsDryRow : OpenClaim := { program := "ytpfbpelkodlljaa", sum := "5fbe0f453bddfd6bc428ca5f90c8d7b7e42508a0adca12e05b15ab4c34d22321", func := "coble/coblelaw09.TowsDry", spec := "towsDry", unfollowed := true, recurses := true, apart := false }
def TowsDrySaid : Prop := towsDryRow.holds Try.pinned (OpenSpec.ofChange towsDrySpec)

/-- ITS FALSE NEIGHBOUR: 'it returns false'. Refute it at one input. -/
def towsDryWrong : ChangeSpec := { name := "towsDry", fn := fun _ => fun
  | [d1, d2] => { results := [.lit (.bool false)], args := [d1, d2] }
  | _ => none }
def TowsDryWrongFalsely : Prop := towsDryRow.holds Try.pinned (OpenSpec.ofChange towsDryWrong)

/-- 'coblelaw09.TowsForces': WHATEVER THE INPUT: true; the input reads as it did. -/
def towsForcesSpec : ChangeSpec := { name := "towsForces", fn := fun _ => fun
  | [d1, d2, d3] => { results := [.lit (.bool true)], args := [d1, d2, d3] }
  | _ => none }
def towsForcesRow : OpenClaim := { program := "ytpfbpelkodlljaa", sum := "5fbe0f453bddfd6bc428ca5f90c8d7b7e42508a0adca12e05b15ab4c34d22321", func := "coble/coblelaw09.TowsForces", spec := "towsForces", unfollowed := true, recurses := true, apart := false }
def TowsForcesSaid : Prop := towsForcesRow.holds Try.pinned (OpenSpec.ofChange towsForcesSpec)

/-- ITS FALSE NEIGHBOUR: 'it returns false'. Refute it at one input. -/
def towsForcesWrong : ChangeSpec := { name := "towsForces", fn := fun _ => fun
  | [d1, d2, d3] => { results := [.lit (.bool false)], args := [d1, d2, d3] }
  | _ => none }
def TowsForcesWrongFalsely : Prop := towsForcesRow.holds Try.pinned (OpenSpec.ofChange towsForcesWrong)

/-- 'coblelaw09.TowsOrders': WHATEVER THE INPUT: true; the input reads as it did. -/
def towsOrdersSpec : ChangeSpec := { name := "towsOrders", fn := fun _ => fun
  | [d] => { results := [.lit (.bool true)], args := [d] }
  | _ => none }
def towsOrdersRow : OpenClaim := { program := "ytpfbpelkodlljaa", sum := "5fbe0f453bddfd6bc428ca5f90c8d7b7e42508a0adca12e05b15ab4c34d22321", func := "coble/coblelaw09.TowsOrders", spec := "towsOrders", unfollowed := true, recurses := true, apart := false }
def TowsOrdersSaid : Prop := towsOrdersRow.holds Try.pinned (OpenSpec.ofChange towsOrdersSpec)

/-- ITS FALSE NEIGHBOUR: 'it returns false'. Refute it at one input. -/
def towsOrdersWrong : ChangeSpec := { name := "towsOrders", fn := fun _ => fun
  | [d] => { results := [.lit (.bool false)], args := [d] }
  | _ => none }
def TowsOrdersWrongFalsely : Prop := towsOrdersRow.holds Try.pinned (OpenSpec.ofChange towsOrdersWrong)

/-- 'coblelaw09.TowsBest': WHATEVER THE INPUT: true; the input reads as it did. -/
def towsBestSpec : ChangeSpec := { name := "towsBest", fn := fun _ => fun
  | [d1, d2, d3] => { results := [.lit (.bool true)], args := [d1, d2, d3] }
  | _ => none }
def towsBestRow : OpenClaim := { program := "ytpfbpelkodlljaa", sum := "5fbe0f453bddfd6bc428ca5f90c8d7b7e42508a0adca12e05b15ab4c34d22321", func := "coble/coblelaw09.TowsBest", spec := "towsBest", unfollowed := true, recurses := true, apart := false }
def TowsBestSaid : Prop := towsBestRow.holds Try.pinned (OpenSpec.ofChange towsBestSpec)

/-- ITS FALSE NEIGHBOUR: 'it returns false'. Refute it at one input. -/
def towsBestWrong : ChangeSpec := { name := "towsBest", fn := fun _ => fun
  | [d1, d2, d3] => { results := [.lit (.bool false)], args := [d1, d2, d3] }
  | _ => none }
def TowsBestWrongFalsely : Prop := towsBestRow.holds Try.pinned (OpenSpec.ofChange towsBestWrong)

/- THE SECOND FORM. 'bulk': how many values and letters a reading holds, each counted each time it is reached (what is shared counts as often as it is met; a slice's spare places count too). A statement '..UptoSaid' is the law's where the arguments, and the package variables that the reading takes, are together of bulk at most 1048576: NARROWER than '..Said'. Prove '..Said' where nothing that the law and all that it calls make is longer than what came in: it says more and counts as full. Else prove '..UptoSaid'. A law counts once. -/
mutual
def uptoBulk {H : Type} : DataW H → Nat
  | .lit (.string bytes) => bytes.length + 1
  | .lit _ => 1
  | .nil => 1
  | .ptr d => uptoBulk d + 1
  | .slice elems spare => uptoBulkAll elems + uptoBulkAll spare + 1
  | .agg parts => uptoBulkAll parts + 1
  | .iface _ d => uptoBulk d + 1
  | .map entries => uptoBulkEntries entries + 1
  | .held _ => 1
def uptoBulkAll {H : Type} : List (DataW H) → Nat
  | [] => 0
  | d :: r => uptoBulk d + uptoBulkAll r
def uptoBulkEntries {H : Type} : List (Lit × DataW H) → Nat
  | [] => 0
  | x :: r => uptoBulkEntry x + uptoBulkEntries r
def uptoBulkEntry {H : Type} : Lit × DataW H → Nat
  | (.string bytes, d) => bytes.length + uptoBulk d + 1
  | (_, d) => uptoBulk d + 1
 end
def uptoSmall : (H : Type) → List (DataW H) → Bool := fun _ ds => decide (uptoBulkAll ds ≤ 1048576)
def OpenSpec.upto (s : _root_.Go.ChangeSpec) : _root_.Go.OpenSpec := { _root_.Go.OpenSpec.ofChange s with cond := some uptoSmall }

/-- 'coblelaw09.TowsBuoys', WHERE WHAT IT READS IS OF BULK AT MOST 1048576: true; the input reads as it did. -/
def towsBuoysUptoRow : OpenClaim := { program := "ytpfbpelkodlljaa", sum := "5fbe0f453bddfd6bc428ca5f90c8d7b7e42508a0adca12e05b15ab4c34d22321", func := "coble/coblelaw09.TowsBuoys", spec := "towsBuoys", unfollowed := true, recurses := true, apart := false, narrowed := true }
def TowsBuoysUptoSaid : Prop := towsBuoysUptoRow.holds Try.pinned (OpenSpec.upto towsBuoysSpec)

/-- 'coblelaw09.TowsWorse', WHERE WHAT IT READS IS OF BULK AT MOST 1048576: true; the input reads as it did. -/
def towsWorseUptoRow : OpenClaim := { program := "ytpfbpelkodlljaa", sum := "5fbe0f453bddfd6bc428ca5f90c8d7b7e42508a0adca12e05b15ab4c34d22321", func := "coble/coblelaw09.TowsWorse", spec := "towsWorse", unfollowed := true, recurses := true, apart := false, narrowed := true }
def TowsWorseUptoSaid : Prop := towsWorseUptoRow.holds Try.pinned (OpenSpec.upto towsWorseSpec)

/-- 'coblelaw09.TowsDry', WHERE WHAT IT READS IS OF BULK AT MOST 1048576: true; the input reads as it did. -/
def towsDryUptoRow : OpenClaim := { program := "ytpfbpelkodlljaa", sum := "5fbe0f453bddfd6bc428ca5f90c8d7b7e42508a0adca12e05b15ab4c34d22321", func := "coble/coblelaw09.TowsDry", spec := "towsDry", unfollowed := true, recurses := true, apart := false, narrowed := true }
def TowsDryUptoSaid : Prop := towsDryUptoRow.holds Try.pinned (OpenSpec.upto towsDrySpec)

/-- 'coblelaw09.TowsForces', WHERE WHAT IT READS IS OF BULK AT MOST 1048576: true; the input reads as it did. -/
def towsForcesUptoRow : OpenClaim := { program := "ytpfbpelkodlljaa", sum := "5fbe0f453bddfd6bc428ca5f90c8d7b7e42508a0adca12e05b15ab4c34d22321", func := "coble/coblelaw09.TowsForces", spec := "towsForces", unfollowed := true, recurses := true, apart := false, narrowed := true }
def TowsForcesUptoSaid : Prop := towsForcesUptoRow.holds Try.pinned (OpenSpec.upto towsForcesSpec)

/-- 'coblelaw09.TowsOrders', WHERE WHAT IT READS IS OF BULK AT MOST 1048576: true; the input reads as it did. -/
def towsOrdersUptoRow : OpenClaim := { program := "ytpfbpelkodlljaa", sum := "5fbe0f453bddfd6bc428ca5f90c8d7b7e42508a0adca12e05b15ab4c34d22321", func := "coble/coblelaw09.TowsOrders", spec := "towsOrders", unfollowed := true, recurses := true, apart := false, narrowed := true }
def TowsOrdersUptoSaid : Prop := towsOrdersUptoRow.holds Try.pinned (OpenSpec.upto towsOrdersSpec)

/-- 'coblelaw09.TowsBest', WHERE WHAT IT READS IS OF BULK AT MOST 1048576: true; the input reads as it did. -/
def towsBestUptoRow : OpenClaim := { program := "ytpfbpelkodlljaa", sum := "5fbe0f453bddfd6bc428ca5f90c8d7b7e42508a0adca12e05b15ab4c34d22321", func := "coble/coblelaw09.TowsBest", spec := "towsBest", unfollowed := true, recurses := true, apart := false, narrowed := true }
def TowsBestUptoSaid : Prop := towsBestUptoRow.holds Try.pinned (OpenSpec.upto towsBestSpec)

end Rows
end Go.Proofs.Ytpfbpelkodlljaa
