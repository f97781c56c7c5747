/- Parts of a proof: the symbolic walk and what it shows of single functions. -/
import Derived.Test.YtpmodggfogahhaaGreatDoorX3
import Derived.Test.YtpmodggfogahhaaGreatDoorX4
set_option linter.all false
namespace Go.Proofs.YtpmodggfogahhaaGreatDoor.Tw
open Go.RowKit Go.SX
set_option maxRecDepth 4000
set_option maxHeartbeats 4000000
set_option linter.unusedSimpArgs false
set_option linter.unusedVariables false
abbrev wr (n : Int) : Int := IntKind.i64.wrap n
def det0 : Nat → List Value → Option Value := fun _ _ => none
theorem det0_ok (w0 : World) (X : Nat → Prop) : DetFn Tryz.prog ⟨w0, X⟩ det0 := fun _ _ _ h => by cases h
theorem det_of_fn' {g : Nat} {args : List Value} {v : Value} {w : World} (h : SX.Fn Tryz.prog g args w (fun _ => False) fun u N => u = v) : Calls Tryz.prog g args.toArray w fun e w' => e = .returned v ∧ Keep (fun _ => False) w w' :=
  Calls.mono h fun e w' ⟨u, N, he, hk, _, _, _, hu⟩ => ⟨by rw [he, hu], hk⟩
def inB (n l h : Int) : Bool := decide (l ≤ n ∧ n ≤ h)
end Go.Proofs.YtpmodggfogahhaaGreatDoor.Tw

