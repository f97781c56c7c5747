/- A part of a proof: the symbolic walk and what it shows of single functions. -/
import Derived.Test.YtcnlbnccbnapbaaDoorSqI
import Derived.Test.YtcnlbnccbnapbaaDoorC5
set_option linter.all false
namespace Go.Proofs.YtcnlbnccbnapbaaDoor
open Go.RowKit Go.SX
set_option maxRecDepth 10000
set_option maxHeartbeats 0
set_option linter.unusedSimpArgs false
set_option linter.unusedVariables false
theorem rdy_can2 {c : Cht} (hok : c.ok) {b : Cls} {r : Rmp} {t : Nat} (hk : 0 ≤ r.cell ∧ r.cell ≤ (c.depth.length : Int) - 1) (ht : t < c.tide.length) (h : rdyB c b r t = true) : canB c b t r.cell.toNat = true := by
  unfold rdyB at h
  rw [Bool.and_eq_true, sureT_iff, decide_eq_true_eq] at h
  have hb := hok.bds (show r.cell.toNat < c.depth.length by omega) ht
  have h1 := h.1 (c.tlo t) (Int.le_refl _) (by omega)
  unfold laun at h1
  have h2 : b.draught ≤ c.over r.cell.toNat t (c.tlo t) := h1.2.2
  unfold canB
  rw [Bool.and_eq_true, decide_eq_true_eq, decide_eq_true_eq]
  exact ⟨h2, h.2⟩
end Go.Proofs.YtcnlbnccbnapbaaDoor
