/- A part of a proof: the symbolic walk and what it shows of single functions. -/
import Derived.Test.YtcnlbnccbnapbaaDoorSqB
import Derived.Test.YtcnlbnccbnapbaaDoorSpT
set_option linter.all false
namespace Go.Proofs.YtcnlbnccbnapbaaDoor
open Go.RowKit Go.SX
set_option maxRecDepth 10000
set_option maxHeartbeats 0
set_option linter.unusedSimpArgs false
set_option linter.unusedVariables false
theorem Vg.vto_R {g : Vg} (hg : g.Ok) {l : List Int} (h0 : Vg.ct l 0 = g.k) : ∀ n, g.vto l (n + 1) → g.R n (g.vst l (n + 1)) (Vg.ct l n) (g.vbn l (n + 1))
  | 0, h => by
    have := Vg.R.zero (g := g)
    rw [Vg.vst, Vg.vst, Vg.vbn, h0]
    exact this
  | n + 1, h => by
    have ih := Vg.vto_R hg h0 n fun j hj => h j (by omega)
    obtain ⟨h1, h2, h3⟩ := h (n + 1) (by omega)
    have hm := h3 (by omega)
    obtain ⟨_, _, _, _, hlen⟩ := hg.ok.dims
    have hct : Vg.ct l (n + 1) < g.c.W * g.c.H := by rw [← hlen]; unfold Vg.ct; omega
    have hsy := nb_symm hct hm
    have hst := Vg.R.step ih hsy h2
    rw [Vg.vst, Vg.vbn]
    exact hst
theorem Vg.isVy.r {g : Vg} (hg : g.Ok) {rdy : Nat → Bool} {l : List Int} (h : g.isVy rdy l) : rdy g.t = true ∧ g.t + (l.length - 1) < g.c.tide.length ∧ rdy (g.t + (l.length - 1)) = true ∧ g.R (l.length - 1) (g.ts + 1) g.k (g.vbn l l.length) := by
  obtain ⟨h1, h2, h3, h4, h5, h6, h7, h8⟩ := h
  have h0 : Vg.ct l 0 = g.k := by unfold Vg.ct; omega
  have he : Vg.ct l (l.length - 1) = g.k := by unfold Vg.ct; omega
  have hr := Vg.vto_R hg h0 (l.length - 1) (by rw [Nat.sub_add_cancel h1]; exact h7)
  rw [Nat.sub_add_cancel h1, h8, he] at hr
  exact ⟨h5, by omega, by rw [show g.t + (l.length - 1) = g.t + l.length - 1 by omega]; exact h6, hr⟩
end Go.Proofs.YtcnlbnccbnapbaaDoor
