/- Parts of a proof: the symbolic walk and what it shows of single functions. -/
import Derived.Test.YtcnlbnccbnapbaaDoorP1
set_option linter.all false
namespace Go.Proofs.YtcnlbnccbnapbaaDoor
open Go.RowKit Go.SX
set_option maxRecDepth 10000
set_option maxHeartbeats 0
set_option linter.unusedSimpArgs false
set_option linter.unusedVariables false
def detL : Nat → List Value → Option Value
  | 30, [.agg ⟨[.int .i64 x1, .int .i64 x2, .int .i64 x3, .int .i64 x4, .int .i64 x5, .int .i64 x6, .int .i64 x7]⟩] => some (I (if clsB ⟨x1, x2, x3, x4, x5, x6, x7⟩ then 0 else 50))
  | 31, [.agg ⟨[.int .i64 x1, .int .i64 x2, .int .i64 x3, .int .i64 x4, .int .i64 x5, .int .i64 x6, .int .i64 x7]⟩] => some (I (if clsB ⟨x1, x2, x3, x4, x5, x6, x7⟩ then 0 else 50))
  | g, xs => detQ g xs
theorem detL_ok (w0 : World) (X : Nat → Prop) : DetFn Tryd.prog ⟨w0, X⟩ detL := by
  intro g args v h w hk
  unfold detL at h
  split at h
  · cases h
    exact det_of_fn (check5_fn w ⟨_, _, _, _, _, _, _⟩)
  · cases h
    exact det_of_fn (rcheck5_fn w ⟨_, _, _, _, _, _, _⟩)
  · exact detQ_ok w0 X _ _ _ h w hk
theorem detL_eq : (∀ n l h : Int, detL 46 [I n, I l, I h] = some (.bool (inB n l h))) ∧ (∀ n l h : Int, detL 60 [I n, I l, I h] = some (.bool (inB n l h))) ∧
    (∀ x1 x2 x3 x4 x5 x6 x7 : Int, detL 30 [.agg #[I x1, I x2, I x3, I x4, I x5, I x6, I x7]] = some (I (if clsB ⟨x1, x2, x3, x4, x5, x6, x7⟩ then 0 else 50))) ∧
    (∀ x1 x2 x3 x4 x5 x6 x7 : Int, detL 31 [.agg #[I x1, I x2, I x3, I x4, I x5, I x6, I x7]] = some (I (if clsB ⟨x1, x2, x3, x4, x5, x6, x7⟩ then 0 else 50))) := ⟨fun _ _ _ => rfl, fun _ _ _ => rfl, fun _ _ _ _ _ _ _ => rfl, fun _ _ _ _ _ _ _ => rfl⟩
end Go.Proofs.YtcnlbnccbnapbaaDoor

