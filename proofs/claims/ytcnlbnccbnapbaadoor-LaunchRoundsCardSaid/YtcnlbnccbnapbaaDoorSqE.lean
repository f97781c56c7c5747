/- A part of a proof: the symbolic walk and what it shows of single functions. -/
import Derived.Test.YtcnlbnccbnapbaaDoorSqC
set_option linter.all false
namespace Go.Proofs.YtcnlbnccbnapbaaDoor
open Go.RowKit Go.SX
set_option maxRecDepth 10000
set_option maxHeartbeats 4000000
set_option linter.unusedSimpArgs false
set_option linter.unusedVariables false
theorem Vg.ct_app (l l' : List Int) {i : Nat} (h : i < l.length) : Vg.ct (l ++ l') i = Vg.ct l i := by
  unfold Vg.ct
  rw [List.getD_eq_getElem?_getD, List.getD_eq_getElem?_getD, List.getElem?_append_left h]
theorem Vg.vst_app (g : Vg) (l l' : List Int) : ∀ i, i ≤ l.length → g.vst (l ++ l') i = g.vst l i
  | 0, _ => rfl
  | i + 1, h => by rw [Vg.vst, Vg.vst, Vg.ct_app l l' (by omega), g.vst_app l l' i (by omega)]
theorem Vg.vbn_app (g : Vg) (l l' : List Int) : ∀ i, i ≤ l.length → g.vbn (l ++ l') i = g.vbn l i
  | 0, _ => rfl
  | 1, _ => rfl
  | i + 2, h => by rw [Vg.vbn, Vg.vbn, Vg.ct_app l l' (by omega), Vg.ct_app l l' (by omega), g.vbn_app l l' (i + 1) (by omega)]
theorem Vg.vto_app (g : Vg) (l l' : List Int) {n : Nat} (hn : n ≤ l.length) (h : g.vto l n) : g.vto (l ++ l') n := by
  intro j hj
  obtain ⟨h1, h2, h3⟩ := h j hj
  have e : (l ++ l').getD j 0 = l.getD j 0 := by rw [List.getD_eq_getElem?_getD, List.getD_eq_getElem?_getD, List.getElem?_append_left (by omega)]
  rw [e, Vg.ct_app l l' (by omega), Vg.ct_app l l' (show j - 1 < l.length by omega)]
  exact ⟨h1, h2, h3⟩
theorem Vg.ct_nts {L : List Nat} {i x : Nat} (h : L[i]? = some x) : Vg.ct (nts L) i = x := by
  unfold Vg.ct nts
  rw [List.getD_eq_getElem?_getD, List.getElem?_map, h]
  rfl
theorem nts_app (L M : List Nat) : nts (L ++ M) = nts L ++ nts M := by unfold nts; rw [List.map_append]
theorem nts_length (L : List Nat) : (nts L).length = L.length := by unfold nts; rw [List.length_map]
theorem Vg.P_vto {g : Vg} (hg : g.Ok) (hk : canB g.c g.b g.t g.k = true) {L : List Nat} {s : Nat} {B : Int} (h : g.P L s B) : 0 < L.length ∧ g.vto (nts L) L.length ∧ g.vst (nts L) L.length = s ∧ g.vbn (nts L) L.length = B ∧ L[0]? = some g.k := by
  induction h with
  | zero =>
    refine ⟨Nat.succ_pos 0, fun j hj => ?_, rfl, rfl, rfl⟩
    obtain rfl : j = 0 := by simp only [List.length_singleton] at hj; omega
    have := hg.k
    exact ⟨⟨Int.natCast_nonneg g.k, by show (g.k : Int) < _; omega⟩, hk, fun h => by omega⟩
  | @step L x y s B hp hy hc ih =>
    obtain ⟨h0, h1, h2, h3, h4⟩ := ih
    obtain ⟨L', x', he, hr⟩ := hp.r
    obtain ⟨rfl, hx⟩ := List.append_inj' he rfl
    cases hx
    have hxb := (Vg.R_bd hg hr).2.1
    have hyb := nb_lt hg hxb hy
    obtain ⟨_, _, _, _, hlen⟩ := hg.ok.dims
    have hsy := nb_symm (by rw [← hlen]; exact hxb) hy
    have hl1 : (L ++ [x]).length = L.length + 1 := by simp
    have hl2 : (L ++ [x] ++ [y]).length = L.length + 1 + 1 := by simp
    have cx : Vg.ct (nts (L ++ [x] ++ [y])) L.length = x := Vg.ct_nts (by simp)
    have cy : Vg.ct (nts (L ++ [x] ++ [y])) (L.length + 1) = y := Vg.ct_nts (by rw [List.getElem?_append_right (by rw [hl1]; omega), hl1, Nat.sub_self]; rfl)
    have gy : (nts (L ++ [x] ++ [y])).getD (L.length + 1) 0 = (y : Int) := by
      unfold nts
      rw [List.getD_eq_getElem?_getD, List.getElem?_map, List.getElem?_append_right (by rw [hl1]; omega), hl1, Nat.sub_self]
      rfl
    have hla : (nts (L ++ [x])).length = L.length + 1 := by rw [nts_length, hl1]
    rw [hl1] at h1 h2 h3
    have a1 := g.vto_app (nts (L ++ [x])) (nts [y]) (by omega) h1
    have a2 := g.vst_app (nts (L ++ [x])) (nts [y]) (L.length + 1) (by omega)
    have a3 := g.vbn_app (nts (L ++ [x])) (nts [y]) (L.length + 1) (by omega)
    rw [← nts_app] at a1 a2 a3
    rw [h2] at a2
    rw [h3] at a3
    rw [hl2]
    refine ⟨by omega, fun j hj => ?_, ?_, ?_, ?_⟩
    · by_cases hj1 : j = L.length + 1
      · subst hj1
        rw [gy, cy, Nat.add_sub_cancel, cx]
        exact ⟨⟨by omega, by omega⟩, hc, fun _ => hsy⟩
      · exact a1 j (by omega)
    · rw [Vg.vst, cy, a2]
    · rw [Vg.vbn, cx, cy, a3]
    · rw [List.getElem?_append_left (by omega)]
      exact h4
theorem rdy_can {c : Cht} (hok : c.ok) {b : Cls} {r : Rmp} {t : Nat} (hk : 0 ≤ r.cell ∧ r.cell ≤ (c.depth.length : Int) - 1) (ht : t < c.tide.length) (h : rdyB c b r t = true) : canB c b t r.cell.toNat = true := by
  unfold rdyB at h
  rw [Bool.and_eq_true, sureT_iff, decide_eq_true_eq] at h
  have hb := hok.bds (show r.cell.toNat < c.depth.length by omega) ht
  have h1 := h.1 (c.tlo t) (Int.le_refl _) (by omega)
  unfold laun at h1
  have h2 : b.draught ≤ c.over r.cell.toNat t (c.tlo t) := h1.2.2
  unfold canB
  rw [Bool.and_eq_true, decide_eq_true_eq, decide_eq_true_eq]
  exact ⟨h2, h.2⟩
theorem Vg.PE_vy {c : Cht} {b : Cls} {r : Rmp} {t f tc ts : Int} (he : goE c b r t f tc ts = 0) {m : Nat} {B : Int} {L : List Nat} (hr : rdyB c b r t.toNat = true) (hb : (Vg.of c b r t tc ts).Best (rdyB c b r) m B) (hP : (Vg.of c b r t tc ts).PE L B) (hl : L.length = m + 1) :
    (Vg.of c b r t tc ts).isVy (rdyB c b r) (nts L) ∧ (Vg.of c b r t tc ts).vbn (nts L) L.length = B := by
  have hg := Vg.of_ok he
  obtain ⟨hsta, htc, hts⟩ := goE_zero he
  obtain ⟨hok, hcls, hrmp, htt, hff⟩ := staE_zero hsta
  have hc := rdy_can hok (ramp_cell hrmp) hg.t hr
  obtain ⟨h0, h1, h2, h3, h4⟩ := Vg.P_vto hg hc hP.1
  have hlt := hb.lt
  have hnl := nts_length L
  have hg0 : (nts L).getD 0 0 = ((Vg.of c b r t tc ts).k : Int) := by
    unfold nts
    rw [List.getD_eq_getElem?_getD, List.getElem?_map, h4]
    rfl
  have hge : (nts L).getD (L.length - 1) 0 = ((Vg.of c b r t tc ts).k : Int) := by
    have h5 := hP.2
    rw [List.getLast?_eq_getElem?] at h5
    unfold nts
    rw [List.getD_eq_getElem?_getD, List.getElem?_map, h5]
    rfl
  refine ⟨⟨by omega, by omega, hg0, by rw [hnl]; exact hge, hr, ?_, by rw [hnl]; exact h1, by rw [hnl]; exact h2⟩, h3⟩
  rw [hnl, hl, show (Vg.of c b r t tc ts).t + (m + 1) - 1 = (Vg.of c b r t tc ts).t + m by omega]
  exact hb.isr
end Go.Proofs.YtcnlbnccbnapbaaDoor
