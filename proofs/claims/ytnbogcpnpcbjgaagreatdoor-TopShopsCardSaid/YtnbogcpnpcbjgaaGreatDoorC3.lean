/- Parts of a proof: the symbolic walk and what it shows of single functions. -/
import Derived.Test.YtnbogcpnpcbjgaaGreatDoorC2
set_option linter.all false
namespace Go.Proofs.YtnbogcpnpcbjgaaGreatDoor
open Go.RowKit Go.SX
set_option maxRecDepth 4000
set_option maxHeartbeats 8000000
set_option linter.unusedSimpArgs false
set_option linter.unusedVariables false
def Cht.few (c : Cht) : Prop := c.depth.length ≤ 146 ∧ c.tide.length ≤ 62 ∧ c.swell.length ≤ 62
theorem few_small {c : Cht} (h : c.few) : c.small := by
  unfold Cht.few at h
  unfold Cht.small
  omega
end Go.Proofs.YtnbogcpnpcbjgaaGreatDoor

