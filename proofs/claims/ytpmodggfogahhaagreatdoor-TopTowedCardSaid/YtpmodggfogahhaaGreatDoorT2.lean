/- Parts of a proof: the symbolic walk and what it shows of single functions. -/
import Derived.Test.YtpmodggfogahhaaGreatDoorT1
import Derived.Test.YtpmodggfogahhaaGreatDoorH5
set_option linter.all false
namespace Go.Proofs.YtpmodggfogahhaaGreatDoor.Tw
open Go.RowKit Go.SX
set_option maxRecDepth 4000
set_option linter.unusedSimpArgs false
set_option linter.unusedVariables false
structure Buoy where
  h : Int
  m : Int
  a : Int
  s : Int
  lo : Int
  hi : Int
  wt : Int
def Buoy.ok (b : Buoy) : Prop := 0 ≤ b.h ∧ b.h ≤ 2000 ∧ 0 ≤ b.m ∧ b.m ≤ 2000 ∧ 1 ≤ b.a ∧ b.a ≤ 500 ∧ 0 ≤ b.s ∧ b.s ≤ 2000 ∧ 1 ≤ b.lo ∧ b.lo ≤ b.hi ∧ b.hi ≤ 500 ∧ -2000 ≤ b.wt ∧ b.wt ≤ 2000
def Buoy.G (b : Buoy) (x : Int) : Int := b.h * (b.a - x) + b.m * x - b.a * (b.s + b.wt)
def Buoy.S (b : Buoy) (x : Int) : Int := x * (b.a - x)
def Buoy.bad (b : Buoy) (x : Int) : Prop := b.G x < 0 ∨ b.G x = 0 ∧ 0 < b.S x
end Go.Proofs.YtpmodggfogahhaaGreatDoor.Tw

namespace Go.Proofs.YtpmodggfogahhaaGreatDoor
open Go.RowKit Go.SX
set_option maxRecDepth 20000
set_option maxHeartbeats 0
set_option linter.unusedSimpArgs false
set_option linter.unusedVariables false
theorem rfrom9_fn (w : World) (n l h : Int) : SX.Fn Tryz.prog 68 [I n, I l, I h] w (fun _ => False) fun q N => q = .bool (Tw.inB n l h) := by
  unfold Tw.inB
  by_cases h1 : l ≤ n
  · have e1 : (n ≥ l) = True := eq_true h1
    refine walk [] [] (det0_ok _ _) Tryz.func68 rfl Tryz.ntmps68 res68 (by kernel_rfl) no_facts ?_
    simp (config := { maxSteps := 4000000 }) only [↓sx0, ↓sx1, ↓sx2, ↓sx3, ↓sx4, ↓sx5, ↓sx6, sx0, sx1, sx2, sx3, sx4, sx5, sx6, tf68, ev3_hold, sxo, sxc, sxp, sxq, sxr, sxs, sxl, sxm, Int.reduceBEq, Int.reduceBNe, Int.reduceLT, Int.reduceLE, Int.reduceEq, Int.reduceGT, Int.reduceGE, Int.reduceToNat, ↓reduceIte, List.reduceReplicate, Nat.reduceAdd, Nat.reduceSub, Nat.reduceMul, Nat.reduceLT, Nat.reduceLeDiff, Nat.reduceBEq, Nat.reduceEqDiff, e1]
    try simp
  · have e1 : (n ≥ l) = False := eq_false h1
    refine walk [] [] (det0_ok _ _) Tryz.func68 rfl Tryz.ntmps68 res68 (by kernel_rfl) no_facts ?_
    simp (config := { maxSteps := 4000000 }) only [↓sx0, ↓sx1, ↓sx2, ↓sx3, ↓sx4, ↓sx5, ↓sx6, sx0, sx1, sx2, sx3, sx4, sx5, sx6, tf68, ev3_hold, sxo, sxc, sxp, sxq, sxr, sxs, sxl, sxm, Int.reduceBEq, Int.reduceBNe, Int.reduceLT, Int.reduceLE, Int.reduceEq, Int.reduceGT, Int.reduceGE, Int.reduceToNat, ↓reduceIte, List.reduceReplicate, Nat.reduceAdd, Nat.reduceSub, Nat.reduceMul, Nat.reduceLT, Nat.reduceLeDiff, Nat.reduceBEq, Nat.reduceEqDiff, e1]
    try simp
end Go.Proofs.YtpmodggfogahhaaGreatDoor

