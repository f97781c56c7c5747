/- Parts of a proof: the symbolic walk and what it shows of single functions. -/
import Derived.Test.YtljpknnhimkkjaaGreatDoorC3
import Derived.Test.YtljpknnhimkkjaaGreatDoorX3
set_option linter.all false
namespace Go.Proofs.YtljpknnhimkkjaaGreatDoor
open Go.RowKit Go.SX
set_option maxRecDepth 4000
set_option maxHeartbeats 8000000
set_option linter.unusedSimpArgs false
set_option linter.unusedVariables false
def v1 (v:Value):List Value:=[v]
end Go.Proofs.YtljpknnhimkkjaaGreatDoor

namespace Go.Proofs.YtljpknnhimkkjaaGreatDoor
open Go.RowKit Go.SX
set_option maxRecDepth 20000
set_option maxHeartbeats 8000000
set_option linter.unusedSimpArgs false
set_option linter.unusedVariables false
def exC:Cht:=⟨4,3,[0,0,-50,-90,30,20,10,-20,60,60,40,30],[(10,14),(20,26),(30,36),(20,26),(10,14)],[5,5,5,5,5]⟩
theorem exC_ok:exC.ok:=by unfold Cht.ok; decide
theorem exC_small:exC.small:=by unfold Cht.small; decide
end Go.Proofs.YtljpknnhimkkjaaGreatDoor

namespace Go.Proofs.YtljpknnhimkkjaaGreatDoor
open Go.RowKit Go.SX
set_option maxRecDepth 20000
set_option maxHeartbeats 8000000
set_option linter.unusedSimpArgs false
set_option linter.unusedVariables false
theorem example_fn (w:World):SX.Fn Tryz.prog 109 [] w (fun _=>False) fun r N=>∃ b1 b2 b3,r = .agg #[I 4,I 3,.slice (some ⟨b1,0,none⟩) 12 12,.slice (some ⟨b2,0,none⟩) 5 5,.slice (some ⟨b3,0,none⟩) 5 5] ∧ HO.row (.slice (some ⟨b1,0,none⟩) 12 12) 3 1 (ints exC.depth) ∈ N ∧ HO.row (.slice (some ⟨b2,0,none⟩) 5 5) 49 2 (cat spc exC.tide) ∈ N ∧ HO.row (.slice (some ⟨b3,0,none⟩) 5 5) 3 1 (ints exC.swell) ∈ N:=by
 refine walk [] [] (det0_ok _ _) Tryz.func109 rfl Tryz.ntmps109 res109 (by kernel_rfl) no_facts ?_
 simp (config := { maxSteps := 4000000 }) only [↓sxw,sxw,tf109,sxu,sxl,sxm,simprocAttr]
 exact fun b b1 b2=>⟨b,b1,b2,rfl,.tail _ (.tail _ (.head _)),.tail _ (.head _),.head _⟩
end Go.Proofs.YtljpknnhimkkjaaGreatDoor

