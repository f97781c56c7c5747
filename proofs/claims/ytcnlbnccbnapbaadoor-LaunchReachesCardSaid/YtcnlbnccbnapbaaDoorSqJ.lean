/- A part of a proof: the symbolic walk and what it shows of single functions. -/
import Derived.Test.YtcnlbnccbnapbaaDoorSqI
import Derived.Test.YtcnlbnccbnapbaaDoorC5
set_option linter.all false
namespace Go.Proofs.YtcnlbnccbnapbaaDoor
open Go.RowKit Go.SX
set_option maxRecDepth 10000
set_option maxHeartbeats 0
set_option linter.unusedSimpArgs false
set_option linter.unusedVariables false

theorem inW_take2 {S : List (Int × Int)} {t : Int} {i : Nat} {p : Int × Int} (h : S[i]? = some p) : (S.take (i + 1)).any (inW t) = ((S.take i).any (inW t) || inW t p) := by
  rw [List.take_add_one, h, List.any_append]
  simp

theorem rdy_can2 {c : Cht} (hok : c.ok) {b : Cls} {r : Rmp} {t : Nat} (hk : 0 ≤ r.cell ∧ r.cell ≤ (c.depth.length : Int) - 1) (ht : t < c.tide.length) (h : rdyB c b r t = true) : canB c b t r.cell.toNat = true := by
  unfold rdyB at h
  rw [Bool.and_eq_true, sureT_iff, decide_eq_true_eq] at h
  have hb := hok.bds (show r.cell.toNat < c.depth.length by omega) ht
  have h1 := h.1 (c.tlo t) (Int.le_refl _) (by omega)
  unfold laun at h1
  have h2 : b.draught ≤ c.over r.cell.toNat t (c.tlo t) := h1.2.2
  unfold canB
  rw [Bool.and_eq_true, decide_eq_true_eq, decide_eq_true_eq]
  exact ⟨h2, h.2⟩

/-- What LaunchReaches looks at, of each cell. -/
theorem reach_facts {c : Cht} {b : Cls} {r : Rmp} {t f tc ts : Int} (he : goE c b r t f tc ts = 0) {ws : List Int} (hws : ∀ k : Nat, k < c.depth.length → (Vg.of c b r t k ts).Ans (rdyB c b r) f (ws.getD k 0)) {k : Nat} (hk : k < c.depth.length) :
    (ws.getD k 0 = 1 ↔ rdyB c b r t.toNat = false) ∧ (rdyB c b r t.toNat = true → (ws.getD k 0 = 2 ↔ (reachL c b r t.toNat).getD k 0 < 0)) ∧ (rdyB c b r t.toNat = false → (reachL c b r t.toNat).getD k 0 < 0) ∧
    (0 ≤ (reachL c b r t.toNat).getD k 0 → 0 ≤ (arrL c b.draught r.cell.toNat t.toNat (c.tide.length - t.toNat)).getD k 0 ∧ (arrL c b.draught r.cell.toNat t.toNat (c.tide.length - t.toNat)).getD k 0 ≤ (reachL c b r t.toNat).getD k 0) := by
  obtain ⟨hsta, htc, hts⟩ := goE_zero he
  obtain ⟨hcok, hcls, hrmp, htt, hff⟩ := staE_zero hsta
  have hrc := ramp_cell hrmp
  have h1 := (hws k hk).one
  have hR : rdyB c b r t.toNat = true → (reachL c b r t.toNat).getD k 0 = outV c b r.cell.toNat t.toNat (c.tide.length - t.toNat) k := fun h => by
    unfold reachL
    rw [if_pos h, List.getD_eq_getElem?_getD, List.getElem?_map, List.getElem?_range hk]
    rfl
  have hN : rdyB c b r t.toNat = false → (reachL c b r t.toNat).getD k 0 = -1 := fun h => by
    unfold reachL
    rw [if_neg (by rw [h]; simp), List.getD_eq_getElem?_getD, List.getElem?_replicate, if_pos hk]
    rfl
  refine ⟨h1.1, fun h => ?_, fun h => by rw [hN h]; omega, fun h => ?_⟩
  · rw [hR h]
    exact h1.2 h
  · cases hr : rdyB c b r t.toNat with
    | false => rw [hN hr] at h; omega
    | true =>
      rw [hR hr] at h ⊢
      exact out_arr hcok (by omega) (rdy_can2 hcok hrc (by omega) hr) hk h

end Go.Proofs.YtcnlbnccbnapbaaDoor
