/- Parts of a proof: the symbolic walk and what it shows of single functions. -/
import Derived.Test.YtljpknnhimkkjaaGreatDoorP3
import Derived.Test.YtljpknnhimkkjaaGreatDoorC5
set_option linter.all false
namespace Go.Proofs.YtljpknnhimkkjaaGreatDoor
open Go.RowKit Go.SX
set_option maxRecDepth 10000
set_option maxHeartbeats 0
set_option linter.unusedSimpArgs false
set_option linter.unusedVariables false
theorem sta_rmp (c:Cht) (b:Cls) (r:Rmp) (t f:Int):staE c b r t f = if rmpE c b r = 0 then (if inB t 0 ((c.tide.length:Int) - 1) && inB f 0 5000 then 0 else 1) else rmpE c b r:=by
 unfold staE rmpE
 cases c.okB <;> cases clsB b <;> cases rampB c r <;> simp
end Go.Proofs.YtljpknnhimkkjaaGreatDoor

