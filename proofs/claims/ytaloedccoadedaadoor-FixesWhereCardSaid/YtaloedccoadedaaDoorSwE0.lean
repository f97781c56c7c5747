/- A part of a proof: the symbolic walk and what it shows of single functions. -/
import Derived.Test.YtaloedccoadedaaDoorSwD
set_option linter.all false
namespace Go.Proofs.YtaloedccoadedaaDoor
open Go.RowKit Go.SX
set_option maxRecDepth 20000
set_option maxHeartbeats 4000000
set_option linter.unusedSimpArgs false
set_option linter.unusedVariables false
theorem Crs.grd_step {g : Crs} (h : g.Ok) : ∀ k x j, k + 1 ≤ g.T → x < g.n → g.onw k x < NV → j < k → ∃ a z, (x :: g.grd k x (g.onw k x - g.cost (g.T - 1 - k) x))[j]? = some a ∧ (x :: g.grd k x (g.onw k x - g.cost (g.T - 1 - k) x))[j + 1]? = some z ∧ a < g.n ∧ z < g.n ∧ g.onw (k - 1 - j) z < NV ∧ g.nr a z = true ∧ g.onw (k - 1 - j) z = g.onw (k - j) a - g.cost (g.T - 1 - (k - j)) a ∧ ∀ z', z' < z → (g.nr a z' && decide (g.onw (k - 1 - j) z' = g.onw (k - j) a - g.cost (g.T - 1 - (k - j)) a)) = false
  | 0, x, j, _, _, _, hj => absurd hj (Nat.not_lt_zero _)
  | k + 1, x, j, hk, hx, hv, hj => by
    obtain ⟨_, y0, hy0, hn0, he0, hl0⟩ := Crs.onw_parts h hk hv
    obtain ⟨y, hy, _⟩ := fstC_hit (p := fun y => g.nr x y && decide (g.onw k y = g.onw (k + 1) x - g.cost (g.T - 1 - (k + 1)) x)) hy0 (by simp [hn0, he0])
    obtain ⟨p1, p2, p3⟩ := fstC_some hy
    rw [Bool.and_eq_true, decide_eq_true_eq] at p1
    have hyv : g.onw k y < NV := by omega
    have hgr : g.grd (k + 1) x (g.onw (k + 1) x - g.cost (g.T - 1 - (k + 1)) x) = y :: g.grd k y (g.onw k y - g.cost (g.T - 1 - k) y) := by
      rw [Crs.grd_succ g k x _ hy, p1.2]
    rw [hgr]
    cases j with
    | zero =>
      exact ⟨x, y, rfl, rfl, hx, p2, hyv, p1.1, p1.2, p3⟩
    | succ j =>
      obtain ⟨a, z, h1, h2, h3⟩ := Crs.grd_step h k y j (by omega) p2 hyv (by omega)
      refine ⟨a, z, h1, h2, ?_⟩
      rw [show k + 1 - 1 - (j + 1) = k - 1 - j by omega, show k + 1 - (j + 1) = k - j by omega]
      exact h3
def crsLf (g : Crs) (F : List Nat) : Nat → Int
  | 0 => g.least
  | t + 1 => g.onw (g.T - 1 - t) (F.getD t 0) - g.cost t (F.getD t 0)
def crsLook (g : Crs) (F : List Nat) : Nat → Nat → Bool
  | 0, z => decide (g.onw (g.T - 1) z = g.least)
  | t + 1, z => g.nr (F.getD t 0) z && decide (g.onw (g.T - 1 - (t + 1)) z = crsLf g F (t + 1))
theorem Crs.first_steps {g : Crs} (h : g.Ok) (hv : g.least < NV) : g.first.length = g.T ∧ ∀ t, t < g.T → g.first.getD t 0 < g.n ∧ g.onw (g.T - 1 - t) (g.first.getD t 0) = crsLf g g.first t ∧ crsLf g g.first t < NV ∧ crsLook g g.first t (g.first.getD t 0) = true ∧ ∀ z, z < g.first.getD t 0 → crsLook g g.first t z = false := by
  have hT := h.T1
  have hok := Crs.first_ok h hv
  obtain ⟨x0, hx0, he0⟩ : ∃ x, x < g.n ∧ g.onw (g.T - 1) x = g.least := by
    unfold Crs.least at hv ⊢
    rcases g.leastC_att g.n with h1 | h1
    · omega
    · exact h1
  obtain ⟨x, hx, _⟩ := fstC_hit (p := fun x => decide (g.onw (g.T - 1) x = g.least)) hx0 (decide_eq_true he0)
  obtain ⟨p1, p2, p3⟩ := fstC_some hx
  have p1' := of_decide_eq_true p1
  have hf : g.first = x :: g.grd (g.T - 1) x (g.onw (g.T - 1) x - g.cost (g.T - 1 - (g.T - 1)) x) := by
    rw [p1', Nat.sub_self]
    unfold Crs.first
    rw [hx]
  refine ⟨hok.1.1, fun t ht => ?_⟩
  cases t with
  | zero =>
    have e : g.first.getD 0 0 = x := by rw [hf]; rfl
    rw [e]
    exact ⟨p2, p1', hv, p1, p3⟩
  | succ t =>
    obtain ⟨a, z, h1, h2, h3, h4, h5, h6, h7, h8⟩ := Crs.grd_step h (g.T - 1) x t (by omega) p2 (by omega) (by omega)
    rw [← hf] at h1 h2
    have ea : g.first.getD t 0 = a := by rw [List.getD_eq_getElem?_getD, h1]; rfl
    have ez : g.first.getD (t + 1) 0 = z := by rw [List.getD_eq_getElem?_getD, h2]; rfl
    have el : crsLf g g.first (t + 1) = g.onw (g.T - 1 - t) a - g.cost (g.T - 1 - (g.T - 1 - t)) a := by
      rw [show g.T - 1 - (g.T - 1 - t) = t by omega, ← ea]
      rfl
    have ek : g.T - 1 - 1 - t = g.T - 1 - (t + 1) := by omega
    rw [ek] at h5 h7 h8
    rw [ez]
    refine ⟨h4, by rw [h7, el], by rw [el, ← h7]; exact h5, ?_, fun y hy => ?_⟩
    · show (g.nr (g.first.getD t 0) z && decide (g.onw (g.T - 1 - (t + 1)) z = crsLf g g.first (t + 1))) = true
      rw [ea, h6, decide_eq_true (by rw [h7, el])]
      rfl
    · show (g.nr (g.first.getD t 0) y && decide (g.onw (g.T - 1 - (t + 1)) y = crsLf g g.first (t + 1))) = false
      rw [ea, el]
      exact h8 y hy
end Go.Proofs.YtaloedccoadedaaDoor
