/- Parts of a proof: the symbolic walk and what it shows of single functions. -/
import Derived.Test.YtogicfoigeongaaGreatDoorL4
import Derived.Test.YtogicfoigeongaaGreatDoorL2
set_option linter.all false
namespace Go.Proofs.YtogicfoigeongaaGreatDoor
open Go.RowKit Go.SX
set_option maxRecDepth 10000
set_option maxHeartbeats 0
set_option linter.unusedSimpArgs false
set_option linter.unusedVariables false
theorem LegsOk.nil (w : World) : LegsOk w (.slice none 0 0) [] := ⟨[], rfl, Sl.nil _ _, by simp⟩
end Go.Proofs.YtogicfoigeongaaGreatDoor

