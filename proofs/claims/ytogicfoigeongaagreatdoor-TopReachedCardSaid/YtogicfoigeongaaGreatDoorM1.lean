/- Parts of a proof: the symbolic walk and what it shows of single functions. -/
import Derived.Test.YtogicfoigeongaaGreatDoorP3
import Derived.Test.YtogicfoigeongaaGreatDoorL5
import Derived.Test.YtogicfoigeongaaGreatDoorL4
import Derived.Test.YtogicfoigeongaaGreatDoorL3
set_option linter.all false
namespace Go.Proofs.YtogicfoigeongaaGreatDoor
open Go.RowKit Go.SX
set_option maxRecDepth 10000
set_option maxHeartbeats 4000000
set_option linter.unusedSimpArgs false
set_option linter.unusedVariables false
theorem now_setN {c : Cht} (hok : c.ok) {b : Cls} {k t : Nat} (hk : k < c.depth.length) (hc : canB c b t k = true) : ∀ i x, x < c.depth.length → nowB c b k t i x = true → (setN c b.draught k t i).getD x false = true
  | 0, x, hx, h => by
    rw [nowB, decide_eq_true_eq] at h
    subst h
    unfold canB at hc
    rw [Bool.and_eq_true] at hc
    rw [setN, List.getD_eq_getElem?_getD, List.getElem?_set, if_pos rfl, if_pos (by rw [List.length_replicate]; exact hx), Option.getD_some]
    exact hc.1
  | i + 1, x, hx, h => by
    rw [nowB, Bool.and_eq_true, List.any_eq_true] at h
    obtain ⟨h1, y, hy, h2⟩ := h
    rw [Bool.and_eq_true, List.contains_iff_mem] at h2
    have hyl := List.mem_range.1 hy
    obtain ⟨_, _, _, _, hlen⟩ := hok.dims
    rw [setN_succ c hok _ _ _ _ _ hx]
    unfold canB at h1
    rw [Bool.and_eq_true] at h1
    exact ⟨h1.1, y, nb_symm (by rw [← hlen]; exact hyl) h2.2, now_setN hok hk hc i y hyl h2.1⟩
theorem outV_get (c : Cht) (b : Cls) (k t x : Nat) : ∀ m, (∃ i, i < m ∧ nowB c b k t i x = true ∧ outV c b k t m x = ((t + i : Nat) : Int)) ∨ outV c b k t m x = -1
  | 0 => .inr rfl
  | m + 1 => by
    rw [outV]
    split
    · rename_i h
      exact .inl ⟨m, by omega, h.2, rfl⟩
    · rcases outV_get c b k t x m with ⟨i, h1, h2, h3⟩ | h
      · exact .inl ⟨i, by omega, h2, h3⟩
      · exact .inr h
theorem out_arr {c : Cht} (hok : c.ok) {b : Cls} {k t : Nat} (hk : k < c.depth.length) (hc : canB c b t k = true) {x : Nat} (hx : x < c.depth.length) {m : Nat} (h : 0 ≤ outV c b k t m x) :
    0 ≤ (arrL c b.draught k t m).getD x 0 ∧ (arrL c b.draught k t m).getD x 0 ≤ outV c b k t m x := by
  rcases outV_get c b k t x m with ⟨i, h1, h2, h3⟩ | h1
  · have h4 := now_setN hok hk hc i x hx h2
    rcases arrL_get c b.draught k t x hx m with ⟨j, g1, g2, g3, g4⟩ | ⟨g1, _⟩
    · rw [g4, h3]
      refine ⟨by omega, ?_⟩
      by_cases hj : i < j
      · rw [g3 i hj] at h4
        cases h4
      · omega
    · rw [g1 i h1] at h4
      cases h4
  · omega
end Go.Proofs.YtogicfoigeongaaGreatDoor

namespace Go.Proofs.YtogicfoigeongaaGreatDoor
open Go.RowKit Go.SX
set_option maxRecDepth 10000
set_option maxHeartbeats 0
set_option linter.unusedSimpArgs false
set_option linter.unusedVariables false
theorem far6_fn (w : World) (v : Value) (c : Cht) (hc : ChOk w v c) : SX.Fn Tryz.prog 5 [v] w (fun _ => False) fun q N => ∃ b, q = .bool b ∧ (b = false → c.small) := by
  have dn : ∀ (g : Nat) (xs : List Value), det0 g xs = none := fun _ _ => rfl
  have hck := fun (hs : c.small) (H : List HO) w' (hp : Hp ⟨w, fun _ => False⟩ H w') => rcheck_fn w' v c (hc.hp hp) hs
  obtain ⟨sD, sT, sS, rfl, hsD, hsT, hsS⟩ := hc
  have hce := fun w' => cells_fn w' c.wide c.high sD sT sS
  obtain ⟨aD, nD, cD, rfl⟩ := hsD.shape
  obtain ⟨aT, nT, cT, rfl⟩ := hsT.shape
  obtain ⟨aS, nS, cS, rfl⟩ := hsS.shape
  have hnD := hsD.le i1_len (by omega)
  have hnT := hsT.le spc_len (by omega)
  have hnS := hsS.le i1_len (by omega)
  subst hnD hnT hnS
  refine walk [] [] (det0_ok _ _) Tryz.func5 rfl Tryz.ntmps5 res5 (by kernel_rfl) no_facts ?_
  by_cases h1 : (c.depth.length : Int) > 200
  · have e1 : ((c.depth.length : Int) > 200) = True := eq_true h1
    simp (config := { maxSteps := 4000000 }) only [↓sx0, ↓sx1, ↓sx2, ↓sx3, ↓sx4, ↓sx5, ↓sx6, sx0, sx1, sx2, sx3, sx4, sx5, sx6, tf5, ev3_hold, sxo, sxc, sxp, sxq, sxr, sxs, sxl, sxm, simprocAttr, e1]
    exact ⟨true, rfl, fun h => by cases h⟩
  have e1 : ((c.depth.length : Int) > 200) = False := eq_false h1
  by_cases h2 : (c.tide.length : Int) > 80
  · have e2 : ((c.tide.length : Int) > 80) = True := eq_true h2
    simp (config := { maxSteps := 4000000 }) only [↓sx0, ↓sx1, ↓sx2, ↓sx3, ↓sx4, ↓sx5, ↓sx6, sx0, sx1, sx2, sx3, sx4, sx5, sx6, tf5, ev3_hold, sxo, sxc, sxp, sxq, sxr, sxs, sxl, sxm, simprocAttr, e1, e2]
    exact ⟨true, rfl, fun h => by cases h⟩
  have e2 : ((c.tide.length : Int) > 80) = False := eq_false h2
  by_cases h3 : (c.swell.length : Int) > 80
  · have e3 : ((c.swell.length : Int) > 80) = True := eq_true h3
    simp (config := { maxSteps := 4000000 }) only [↓sx0, ↓sx1, ↓sx2, ↓sx3, ↓sx4, ↓sx5, ↓sx6, sx0, sx1, sx2, sx3, sx4, sx5, sx6, tf5, ev3_hold, sxo, sxc, sxp, sxq, sxr, sxs, sxl, sxm, simprocAttr, e1, e2, e3]
    exact ⟨true, rfl, fun h => by cases h⟩
  have e3 : ((c.swell.length : Int) > 80) = False := eq_false h3
  have hs : c.small := ⟨by omega, by omega, by omega⟩
  simp (config := { maxSteps := 4000000 }) only [↓sx0, ↓sx1, ↓sx2, ↓sx3, ↓sx4, ↓sx5, ↓sx6, sx0, sx1, sx2, sx3, sx4, sx5, sx6, tf5, ev3_hold, sxo, sxc, sxp, sxq, sxr, sxs, sxl, sxm, simprocAttr, e1, e2, e3, dn]
  refine CallOb.pureH (fun w' hp => hck hs _ w' hp) ?_
  rintro q N rfl
  cases ho : c.okB with
  | false =>
    refine ⟨?_⟩
    simp (config := { maxSteps := 4000000 }) only [↓sx0, ↓sx1, ↓sx2, ↓sx3, ↓sx4, ↓sx5, ↓sx6, sx0, sx1, sx2, sx3, sx4, sx5, sx6, tf5, ev3_hold, sxo, sxc, sxp, sxq, sxr, sxs, sxl, sxm, simprocAttr, dn]
    first | exact ⟨false, rfl, fun _ => hs⟩ | trace_state
  | true =>
    refine ⟨?_⟩
    simp (config := { maxSteps := 4000000 }) only [↓sx0, ↓sx1, ↓sx2, ↓sx3, ↓sx4, ↓sx5, ↓sx6, sx0, sx1, sx2, sx3, sx4, sx5, sx6, tf5, ev3_hold, sxo, sxc, sxp, sxq, sxr, sxs, sxl, sxm, simprocAttr, dn]
    refine CallOb.pureH (fun w' hp => hce w') ?_
    rintro q N2 rfl
    obtain ⟨z, hz⟩ : ∃ z, wr (c.wide * c.high) = z := ⟨_, rfl⟩
    rw [hz]
    by_cases hz2 : z > 20
    · have ez : (z > 20) = True := eq_true hz2
      refine ⟨?_⟩
      simp (config := { maxSteps := 4000000 }) only [↓sx0, ↓sx1, ↓sx2, ↓sx3, ↓sx4, ↓sx5, ↓sx6, sx0, sx1, sx2, sx3, sx4, sx5, sx6, tf5, ev3_hold, sxo, sxc, sxp, sxq, sxr, sxs, sxl, sxm, simprocAttr, ez, dn]
      first | exact ⟨true, rfl, fun _ => hs⟩ | trace_state
    have ez : (z > 20) = False := eq_false hz2
    refine ⟨?_⟩
    simp (config := { maxSteps := 4000000 }) only [↓sx0, ↓sx1, ↓sx2, ↓sx3, ↓sx4, ↓sx5, ↓sx6, sx0, sx1, sx2, sx3, sx4, sx5, sx6, tf5, ev3_hold, sxo, sxc, sxp, sxq, sxr, sxs, sxl, sxm, simprocAttr, ez, dn]
    first | exact ⟨_, rfl, fun _ => hs⟩ | trace_state
end Go.Proofs.YtogicfoigeongaaGreatDoor

namespace Go.Proofs.YtogicfoigeongaaGreatDoor
open Go.RowKit Go.SX
set_option maxRecDepth 10000
set_option maxHeartbeats 0
set_option linter.unusedSimpArgs false
set_option linter.unusedVariables false
theorem rdy_canR {c : Cht} (hok : c.ok) {b : Cls} {r : Rmp} {t : Nat} (hk : 0 ≤ r.cell ∧ r.cell ≤ (c.depth.length : Int) - 1) (ht : t < c.tide.length) (h : rdyB c b r t = true) : canB c b t r.cell.toNat = true := by
  unfold rdyB at h
  rw [Bool.and_eq_true, sureT_iff, decide_eq_true_eq] at h
  have hb := hok.bds (show r.cell.toNat < c.depth.length by omega) ht
  have h1 := h.1 (c.tlo t) (Int.le_refl _) (by omega)
  unfold laun at h1
  have h2 : b.draught ≤ c.over r.cell.toNat t (c.tlo t) := h1.2.2
  unfold canB
  rw [Bool.and_eq_true, decide_eq_true_eq, decide_eq_true_eq]
  exact ⟨h2, h.2⟩
theorem reach_known {c : Cht} (hok : c.ok) {b : Cls} {r : Rmp} {t K : Nat} (hr : 0 ≤ r.cell ∧ r.cell ≤ (c.depth.length : Int) - 1) (ht : t < c.tide.length) (hK : K < c.depth.length) {n : Int} (hn : (reachL c b r t).getD K 0 = n) (h0 : 0 ≤ n) :
    canB c b t r.cell.toNat = true ∧ n = outV c b r.cell.toNat t (c.tide.length - t) K := by
  unfold reachL at hn
  cases hrd : rdyB c b r t with
  | false =>
    rw [hrd, if_neg (by simp), List.getD_eq_getElem?_getD, List.getElem?_replicate, if_pos hK] at hn
    simp at hn
    omega
  | true =>
    rw [hrd, if_pos rfl, List.getD_eq_getElem?_getD, List.getElem?_map, List.getElem?_range hK] at hn
    exact ⟨rdy_canR hok hr ht hrd, hn.symm⟩
theorem setN_now {c : Cht} (hok : c.ok) {b : Cls} {k t : Nat} (hk : k < c.depth.length) (hcalm : ∀ s, s < c.tide.length → c.swl s ≤ b.seas) : ∀ i x, t + i < c.tide.length → x < c.depth.length → (setN c b.draught k t i).getD x false = true → nowB c b k t i x = true
  | 0, x, hi, hx, h => by
    rw [setN, List.getD_eq_getElem?_getD, List.getElem?_set] at h
    rw [nowB, decide_eq_true_eq]
    by_cases e : k = x
    · exact e.symm
    · rw [if_neg e, List.getElem?_replicate] at h
      split at h <;> simp at h
  | i + 1, x, hi, hx, h => by
    obtain ⟨_, _, _, _, hlen⟩ := hok.dims
    obtain ⟨h1, y, hy, h2⟩ := (setN_succ c hok _ _ _ _ _ hx).1 h
    have hy2 : y < c.depth.length := by rw [hlen]; exact nbL_lt (by rw [← hlen]; exact hx) y hy
    rw [nowB, Bool.and_eq_true, List.any_eq_true]
    refine ⟨?_, y, List.mem_range.2 hy2, ?_⟩
    · unfold canB
      rw [Bool.and_eq_true]
      exact ⟨h1, decide_eq_true (hcalm _ (by omega))⟩
    · rw [Bool.and_eq_true, List.contains_iff_mem]
      exact ⟨setN_now hok hk hcalm i y (by omega) hy2 h2, nb_symm (by rw [← hlen]; exact hx) hy⟩
theorem outV_le (c : Cht) (b : Cls) (k t x : Nat) {j : Nat} (hj : nowB c b k t j x = true) : ∀ m, j < m → 0 ≤ outV c b k t m x ∧ outV c b k t m x ≤ ((t + j : Nat) : Int)
  | 0, h => by omega
  | m + 1, h => by
    rw [outV]
    split
    · rename_i h1
      by_cases e : j = m
      · subst e
        exact ⟨by omega, Int.le_refl _⟩
      · have := outV_le c b k t x hj m (by omega)
        omega
    · rename_i h1
      by_cases e : j = m
      · subst e
        rcases outV_get c b k t x j with ⟨i, h2, _, h3⟩ | h2
        · rw [h3]
          omega
        · exact absurd ⟨by omega, hj⟩ h1
      · exact outV_le c b k t x hj m (by omega)
theorem reach_route {c : Cht} (hok : c.ok) {b : Cls} {k t K : Nat} {p : List Nat} (hk : k < c.depth.length) (ht : t < c.tide.length) (hK : K < c.depth.length) (hc : canB c b t k = true) (h0 : 0 ≤ outV c b k t (c.tide.length - t) K) (hp : RtP c b.draught t k K p) :
    ((t + (p.length - 1) : Nat) : Int) ≤ outV c b k t (c.tide.length - t) K ∧ ((∀ s, s < c.tide.length → c.swl s ≤ b.seas) → ((t + (p.length - 1) : Nat) : Int) = outV c b k t (c.tide.length - t) K) := by
  have h1 := out_arr hok hk hc hK h0
  have h2 := route_end hok hk hK hp
  rw [h2] at h1
  refine ⟨h1.2, fun hcalm => ?_⟩
  obtain ⟨h3, h4⟩ := hp.len
  have hr := hp.rr hok (j := p.length - 1) (by omega)
  rw [hp.2.2.1] at hr
  have h5 := (setN_Rr hok hk (p.length - 1) K hK).2 hr
  have h6 := setN_now hok hk hcalm (p.length - 1) K (by omega) hK h5
  have h7 := outV_le c b k t K h6 (c.tide.length - t) (by omega)
  omega
theorem reach_some {c : Cht} (hok : c.ok) {b : Cls} {k t K : Nat} (hk : k < c.depth.length) (ht : t < c.tide.length) (hK : K < c.depth.length) (hc : canB c b t k = true) (h0 : 0 ≤ outV c b k t (c.tide.length - t) K) : ¬ ∀ i, t + i < c.tide.length → ¬ Rr c b.draught t k i K := fun hno => by
  have h1 := out_arr hok hk hc hK h0
  rw [arr_none hok hk hK hno] at h1
  omega
end Go.Proofs.YtogicfoigeongaaGreatDoor

