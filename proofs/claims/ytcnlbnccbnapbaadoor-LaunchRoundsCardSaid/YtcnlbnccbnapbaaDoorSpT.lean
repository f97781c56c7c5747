/- A part of a proof: the symbolic walk and what it shows of single functions. -/
import Derived.Test.YtcnlbnccbnapbaaDoorP8
set_option linter.all false
namespace Go.Proofs.YtcnlbnccbnapbaaDoor
open Go.RowKit Go.SX
set_option maxRecDepth 10000
set_option maxHeartbeats 0
set_option linter.unusedSimpArgs false
set_option linter.unusedVariables false
structure Lax (b b' : Cls) : Prop where
  draught : b'.draught = b.draught
  move : b'.move = b.move
  idle : b'.idle = b.idle
  seas : b.seas ≤ b'.seas
theorem Lax.can {b b' : Cls} (h : Lax b b') {c : Cht} {t k : Nat} (hc : canB c b t k = true) : canB c b' t k = true := by
  unfold canB at hc ⊢
  rw [Bool.and_eq_true, decide_eq_true_eq, decide_eq_true_eq] at hc ⊢
  rw [h.draught]
  exact ⟨hc.1, Int.le_trans hc.2 h.seas⟩
theorem Lax.rdy {b b' : Cls} (h : Lax b b') {c : Cht} {r : Rmp} {t : Nat} (hc : rdyB c b r t = true) : rdyB c b' r t = true := by
  unfold rdyB at hc ⊢
  rw [Bool.and_eq_true, decide_eq_true_eq] at hc ⊢
  have : r.own b' = r.own b := by unfold Rmp.own; rw [h.draught]
  rw [this]
  exact ⟨hc.1, Int.le_trans hc.2 h.seas⟩
theorem Lax.run {b b' : Cls} (h : Lax b b') {c : Cht} {k t tc ts ts' : Nat} (hts : ts' ≤ ts) {i s x : Nat} {B : Int} (hr : (Vg.mk c b k t tc ts).R i s x B) : ∃ s', (Vg.mk c b' k t tc ts').R i s' x B ∧ (s' = ts' + 1 ∨ s' = s ∧ s ≤ ts') := by
  have key : ∀ y s s', (s' = ts' + 1 ∨ s' = s ∧ s ≤ ts') → ((Vg.mk c b' k t tc ts').st y s' = ts' + 1 ∨ (Vg.mk c b' k t tc ts').st y s' = (Vg.mk c b k t tc ts).st y s ∧ (Vg.mk c b k t tc ts).st y s ≤ ts') := by
    intro y s s' hs
    unfold Vg.st
    simp only []
    repeat' split
    all_goals omega
  have wge : ∀ x y, (Vg.mk c b' k t tc ts').wg x y = (Vg.mk c b k t tc ts).wg x y := fun x y => by
    unfold Vg.wg
    simp only [h.move, h.idle]
  induction hr with
  | zero => exact ⟨_, Vg.R.zero, key _ 0 0 (.inr ⟨rfl, Nat.zero_le _⟩)⟩
  | @step i s x y B _ hy hc ih =>
    obtain ⟨s', h1, h2⟩ := ih
    refine ⟨_, ?_, key y s s' h2⟩
    have := Vg.R.step h1 hy (h.can hc)
    rw [wge] at this
    exact this
theorem Lax.fin {b b' : Cls} (h : Lax b b') {c : Cht} {k t tc ts ts' : Nat} (hts : ts' ≤ ts) {i x : Nat} {B : Int} (hr : (Vg.mk c b k t tc ts).R i (ts + 1) x B) : (Vg.mk c b' k t tc ts').R i (ts' + 1) x B := by
  obtain ⟨s', h1, h2⟩ := h.run hts hr
  have : s' = ts' + 1 := by omega
  rwa [this] at h1
end Go.Proofs.YtcnlbnccbnapbaaDoor
