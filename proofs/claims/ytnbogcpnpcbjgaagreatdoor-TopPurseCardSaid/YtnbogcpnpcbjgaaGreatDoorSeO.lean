/- A part of a proof: the symbolic walk and what it shows of single functions. -/
import Derived.Test.YtnbogcpnpcbjgaaGreatDoorSeN
import Derived.Test.YtnbogcpnpcbjgaaGreatDoorH5
set_option linter.all false
namespace Go.Proofs.YtnbogcpnpcbjgaaGreatDoor
open Go.RowKit Go.SX
set_option maxRecDepth 20000
set_option maxHeartbeats 0
set_option linter.unusedSimpArgs false
set_option linter.unusedVariables false
theorem topPurse_fn (w : World) (hw : Ways w) (v1 : Value) (inc : List Int) (h1 : Sl w v1 1 (ints inc)) (v2 : Value) (cost : List Int) (h2 : Sl w v2 1 (ints cost)) : SX.Fn Tryz.prog 4 [v1, v2] w (fun _ => False) fun q N => q = .bool true := by
  have dn : ∀ (g : Nat) (xs : List Value), det0 g xs = none := fun _ _ => rfl
  have hlv := fun (H : List HO) w' (hp : Hp ⟨w, fun _ => False⟩ H w') => lives_fn w' (hw.hp hp)
  have hpu := fun (hl : inc.length = cost.length) (h5 : inc.length ≤ 5) (H : List HO) w' (hp : Hp ⟨w, fun _ => False⟩ H w') => purse_fn w' v1 v2 inc cost (Sl.hp (w0 := ⟨w, fun _ => False⟩) h1 (fun _ _ => id) hp) (Sl.hp (w0 := ⟨w, fun _ => False⟩) h2 (fun _ _ => id) hp) hl h5
  have hr1 := fun H => h1.rd0 H
  have hr2 := fun H => h2.rd0 H
  obtain ⟨a, n, c, rfl⟩ := h1.shape
  obtain ⟨b, m, d, rfl⟩ := h2.shape
  have hn := h1.le i1_len (by omega)
  have hm := h2.le i1_len (by omega)
  subst hn hm
  by_cases hl : inc.length = cost.length
  case neg =>
    have e1 : ((inc.length : Int) = (cost.length : Int)) = False := eq_false (by omega)
    refine walk [] [] (det0_ok _ _) Tryz.func4 rfl Tryz.ntmps4 res4 (by kernel_rfl) no_facts ?_
    simp (config := { maxSteps := 4000000 }) only [↓sx0, ↓sx1, ↓sx2, ↓sx3, ↓sx4, ↓sx5, ↓sx6, sx0, sx1, sx2, sx3, sx4, sx5, sx6, tf4, ev3_hold, sxo, sxc, sxp, sxq, sxr, sxs, sxl, sxm, simprocAttr, e1, dn]
    refine CallOb.pureH (fun w' hp => hlv _ w' hp) ?_
    rintro q NN rfl
    refine ⟨?_⟩
    simp (config := { maxSteps := 4000000 }) only [↓sx0, ↓sx1, ↓sx2, ↓sx3, ↓sx4, ↓sx5, ↓sx6, sx0, sx1, sx2, sx3, sx4, sx5, sx6, tf4, ev3_hold, sxo, sxc, sxp, sxq, sxr, sxs, sxl, sxm, simprocAttr]
  have e1 : ((inc.length : Int) = (cost.length : Int)) = True := eq_true (by omega)
  by_cases h5 : inc.length ≤ 5
  case neg =>
    have e2 : ((inc.length : Int) > 5) = True := eq_true (by omega)
    refine walk [] [] (det0_ok _ _) Tryz.func4 rfl Tryz.ntmps4 res4 (by kernel_rfl) no_facts ?_
    simp (config := { maxSteps := 4000000 }) only [↓sx0, ↓sx1, ↓sx2, ↓sx3, ↓sx4, ↓sx5, ↓sx6, sx0, sx1, sx2, sx3, sx4, sx5, sx6, tf4, ev3_hold, sxo, sxc, sxp, sxq, sxr, sxs, sxl, sxm, simprocAttr, e1, e2, dn]
    refine CallOb.pureH (fun w' hp => hlv _ w' hp) ?_
    rintro q NN rfl
    refine ⟨?_⟩
    simp (config := { maxSteps := 4000000 }) only [↓sx0, ↓sx1, ↓sx2, ↓sx3, ↓sx4, ↓sx5, ↓sx6, sx0, sx1, sx2, sx3, sx4, sx5, sx6, tf4, ev3_hold, sxo, sxc, sxp, sxq, sxr, sxs, sxl, sxm, simprocAttr]
  have e2 : ((inc.length : Int) > 5) = False := eq_false (by omega)
  have hpu := hpu hl h5
  refine walk [] [] (det0_ok _ _) Tryz.func4 rfl Tryz.ntmps4 res4 (by kernel_rfl) no_facts ?_
  simp (config := { maxSteps := 4000000 }) only [↓sx0, ↓sx1, ↓sx2, ↓sx3, ↓sx4, ↓sx5, ↓sx6, sx0, sx1, sx2, sx3, sx4, sx5, sx6, tf4, ev3_hold, sxo, sxc, sxp, sxq, sxr, sxs, sxl, sxm, simprocAttr, e1, e2]
  refine loop_constH [] (HImp.nil _ _) [(4, 5), (31, 63)] (fun i : Nat => [(5, I i)]) (fun i H1 => i ≤ inc.length ∧ ∀ k, k < i → (0 ≤ inc.getD k 0 ∧ inc.getD k 0 ≤ 100000) ∧ (0 ≤ cost.getD k 0 ∧ cost.getD k 0 ≤ 100000)) (fun i => inc.length - i) 0 ?_ ⟨Nat.zero_le _, fun k h => by omega⟩ ?_
  · simp (config := { maxSteps := 4000000 }) only [↓sx0, ↓sx1, ↓sx2, ↓sx3, ↓sx4, ↓sx5, ↓sx6, sx0, sx1, sx2, sx3, sx4, sx5, sx6, tf4, ev3_hold, sxo, sxc, sxp, sxq, sxr, sxs, sxl, sxm, simprocAttr]
    try simp
  rintro i H1 g1 ⟨hi, hall⟩
  by_cases hin : i = inc.length
  case neg =>
    have e7 : ((i : Int) < (inc.length : Int)) = True := eq_true (by omega)
    have e9 : ((i : Int) < (cost.length : Int)) = True := eq_true (by omega)
    have e8 : wr (i + 1) = ((i + 1 : Nat) : Int) := (wrap_id (by omega)).trans (by omega)
    obtain ⟨x, hx⟩ : ∃ x, inc[i]? = some x := ⟨_, List.getElem?_eq_getElem (by omega)⟩
    obtain ⟨y, hy⟩ : ∃ y, cost[i]? = some y := ⟨_, List.getElem?_eq_getElem (by omega)⟩
    have hxd : inc.getD i 0 = x := by rw [List.getD_eq_getElem?_getD, hx]; rfl
    have hyd : cost.getD i 0 = y := by rw [List.getD_eq_getElem?_getD, hy]; rfl
    by_cases c1 : x < 0
    · have f1 : (x < 0) = True := eq_true c1
      refine ⟨?_⟩
      simp (config := { maxSteps := 4000000 }) only [↓sx0, ↓sx1, ↓sx2, ↓sx3, ↓sx4, ↓sx5, ↓sx6, sx0, sx1, sx2, sx3, sx4, sx5, sx6, tf4, ev3_hold, sxo, sxc, sxp, sxq, sxr, sxs, sxl, sxm, simprocAttr, e7]
      refine amid (at_1 (hr1 _) i1_len hx rfl fun ad => ?_)
      simp (config := { maxSteps := 4000000 }) only [↓sx0, ↓sx1, ↓sx2, ↓sx3, ↓sx4, ↓sx5, ↓sx6, sx0, sx1, sx2, sx3, sx4, sx5, sx6, tf4, ev3_hold, sxo, sxc, sxp, sxq, sxr, sxs, sxl, sxm, simprocAttr, f1, dn]
      refine CallOb.pureH (fun w' hp => hlv _ w' hp) ?_
      rintro q NN rfl
      refine ⟨?_⟩
      simp (config := { maxSteps := 4000000 }) only [↓sx0, ↓sx1, ↓sx2, ↓sx3, ↓sx4, ↓sx5, ↓sx6, sx0, sx1, sx2, sx3, sx4, sx5, sx6, tf4, ev3_hold, sxo, sxc, sxp, sxq, sxr, sxs, sxl, sxm, simprocAttr]
    have f1 : (x < 0) = False := eq_false c1
    by_cases c2 : x > 100000
    · have f2 : (x > 100000) = True := eq_true c2
      refine ⟨?_⟩
      simp (config := { maxSteps := 4000000 }) only [↓sx0, ↓sx1, ↓sx2, ↓sx3, ↓sx4, ↓sx5, ↓sx6, sx0, sx1, sx2, sx3, sx4, sx5, sx6, tf4, ev3_hold, sxo, sxc, sxp, sxq, sxr, sxs, sxl, sxm, simprocAttr, e7]
      refine amid (at_1 (hr1 _) i1_len hx rfl fun ad => ?_)
      simp (config := { maxSteps := 4000000 }) only [↓sx0, ↓sx1, ↓sx2, ↓sx3, ↓sx4, ↓sx5, ↓sx6, sx0, sx1, sx2, sx3, sx4, sx5, sx6, tf4, ev3_hold, sxo, sxc, sxp, sxq, sxr, sxs, sxl, sxm, simprocAttr, f1, e7]
      refine amid (at_1 (hr1 _) i1_len hx rfl fun ad => ?_)
      simp (config := { maxSteps := 4000000 }) only [↓sx0, ↓sx1, ↓sx2, ↓sx3, ↓sx4, ↓sx5, ↓sx6, sx0, sx1, sx2, sx3, sx4, sx5, sx6, tf4, ev3_hold, sxo, sxc, sxp, sxq, sxr, sxs, sxl, sxm, simprocAttr, f2, dn]
      refine CallOb.pureH (fun w' hp => hlv _ w' hp) ?_
      rintro q NN rfl
      refine ⟨?_⟩
      simp (config := { maxSteps := 4000000 }) only [↓sx0, ↓sx1, ↓sx2, ↓sx3, ↓sx4, ↓sx5, ↓sx6, sx0, sx1, sx2, sx3, sx4, sx5, sx6, tf4, ev3_hold, sxo, sxc, sxp, sxq, sxr, sxs, sxl, sxm, simprocAttr]
    have f2 : (x > 100000) = False := eq_false c2
    by_cases c3 : y < 0
    · have f3 : (y < 0) = True := eq_true c3
      refine ⟨?_⟩
      simp (config := { maxSteps := 4000000 }) only [↓sx0, ↓sx1, ↓sx2, ↓sx3, ↓sx4, ↓sx5, ↓sx6, sx0, sx1, sx2, sx3, sx4, sx5, sx6, tf4, ev3_hold, sxo, sxc, sxp, sxq, sxr, sxs, sxl, sxm, simprocAttr, e7]
      refine amid (at_1 (hr1 _) i1_len hx rfl fun ad => ?_)
      simp (config := { maxSteps := 4000000 }) only [↓sx0, ↓sx1, ↓sx2, ↓sx3, ↓sx4, ↓sx5, ↓sx6, sx0, sx1, sx2, sx3, sx4, sx5, sx6, tf4, ev3_hold, sxo, sxc, sxp, sxq, sxr, sxs, sxl, sxm, simprocAttr, f1, e7]
      refine amid (at_1 (hr1 _) i1_len hx rfl fun ad => ?_)
      simp (config := { maxSteps := 4000000 }) only [↓sx0, ↓sx1, ↓sx2, ↓sx3, ↓sx4, ↓sx5, ↓sx6, sx0, sx1, sx2, sx3, sx4, sx5, sx6, tf4, ev3_hold, sxo, sxc, sxp, sxq, sxr, sxs, sxl, sxm, simprocAttr, f2, e9]
      refine amid (at_1 (hr2 _) i1_len hy rfl fun ad => ?_)
      simp (config := { maxSteps := 4000000 }) only [↓sx0, ↓sx1, ↓sx2, ↓sx3, ↓sx4, ↓sx5, ↓sx6, sx0, sx1, sx2, sx3, sx4, sx5, sx6, tf4, ev3_hold, sxo, sxc, sxp, sxq, sxr, sxs, sxl, sxm, simprocAttr, f3, dn]
      refine CallOb.pureH (fun w' hp => hlv _ w' hp) ?_
      rintro q NN rfl
      refine ⟨?_⟩
      simp (config := { maxSteps := 4000000 }) only [↓sx0, ↓sx1, ↓sx2, ↓sx3, ↓sx4, ↓sx5, ↓sx6, sx0, sx1, sx2, sx3, sx4, sx5, sx6, tf4, ev3_hold, sxo, sxc, sxp, sxq, sxr, sxs, sxl, sxm, simprocAttr]
    have f3 : (y < 0) = False := eq_false c3
    by_cases c4 : y > 100000
    · have f4 : (y > 100000) = True := eq_true c4
      refine ⟨?_⟩
      simp (config := { maxSteps := 4000000 }) only [↓sx0, ↓sx1, ↓sx2, ↓sx3, ↓sx4, ↓sx5, ↓sx6, sx0, sx1, sx2, sx3, sx4, sx5, sx6, tf4, ev3_hold, sxo, sxc, sxp, sxq, sxr, sxs, sxl, sxm, simprocAttr, e7]
      refine amid (at_1 (hr1 _) i1_len hx rfl fun ad => ?_)
      simp (config := { maxSteps := 4000000 }) only [↓sx0, ↓sx1, ↓sx2, ↓sx3, ↓sx4, ↓sx5, ↓sx6, sx0, sx1, sx2, sx3, sx4, sx5, sx6, tf4, ev3_hold, sxo, sxc, sxp, sxq, sxr, sxs, sxl, sxm, simprocAttr, f1, e7]
      refine amid (at_1 (hr1 _) i1_len hx rfl fun ad => ?_)
      simp (config := { maxSteps := 4000000 }) only [↓sx0, ↓sx1, ↓sx2, ↓sx3, ↓sx4, ↓sx5, ↓sx6, sx0, sx1, sx2, sx3, sx4, sx5, sx6, tf4, ev3_hold, sxo, sxc, sxp, sxq, sxr, sxs, sxl, sxm, simprocAttr, f2, e9]
      refine amid (at_1 (hr2 _) i1_len hy rfl fun ad => ?_)
      simp (config := { maxSteps := 4000000 }) only [↓sx0, ↓sx1, ↓sx2, ↓sx3, ↓sx4, ↓sx5, ↓sx6, sx0, sx1, sx2, sx3, sx4, sx5, sx6, tf4, ev3_hold, sxo, sxc, sxp, sxq, sxr, sxs, sxl, sxm, simprocAttr, f3, e9]
      refine amid (at_1 (hr2 _) i1_len hy rfl fun ad => ?_)
      simp (config := { maxSteps := 4000000 }) only [↓sx0, ↓sx1, ↓sx2, ↓sx3, ↓sx4, ↓sx5, ↓sx6, sx0, sx1, sx2, sx3, sx4, sx5, sx6, tf4, ev3_hold, sxo, sxc, sxp, sxq, sxr, sxs, sxl, sxm, simprocAttr, f4, dn]
      refine CallOb.pureH (fun w' hp => hlv _ w' hp) ?_
      rintro q NN rfl
      refine ⟨?_⟩
      simp (config := { maxSteps := 4000000 }) only [↓sx0, ↓sx1, ↓sx2, ↓sx3, ↓sx4, ↓sx5, ↓sx6, sx0, sx1, sx2, sx3, sx4, sx5, sx6, tf4, ev3_hold, sxo, sxc, sxp, sxq, sxr, sxs, sxl, sxm, simprocAttr]
    have f4 : (y > 100000) = False := eq_false c4
    refine ⟨?_⟩
    simp (config := { maxSteps := 4000000 }) only [↓sx0, ↓sx1, ↓sx2, ↓sx3, ↓sx4, ↓sx5, ↓sx6, sx0, sx1, sx2, sx3, sx4, sx5, sx6, tf4, ev3_hold, sxo, sxc, sxp, sxq, sxr, sxs, sxl, sxm, simprocAttr, e7]
    refine amid (at_1 (hr1 _) i1_len hx rfl fun ad => ?_)
    simp (config := { maxSteps := 4000000 }) only [↓sx0, ↓sx1, ↓sx2, ↓sx3, ↓sx4, ↓sx5, ↓sx6, sx0, sx1, sx2, sx3, sx4, sx5, sx6, tf4, ev3_hold, sxo, sxc, sxp, sxq, sxr, sxs, sxl, sxm, simprocAttr, f1, e7]
    refine amid (at_1 (hr1 _) i1_len hx rfl fun ad => ?_)
    simp (config := { maxSteps := 4000000 }) only [↓sx0, ↓sx1, ↓sx2, ↓sx3, ↓sx4, ↓sx5, ↓sx6, sx0, sx1, sx2, sx3, sx4, sx5, sx6, tf4, ev3_hold, sxo, sxc, sxp, sxq, sxr, sxs, sxl, sxm, simprocAttr, f2, e9]
    refine amid (at_1 (hr2 _) i1_len hy rfl fun ad => ?_)
    simp (config := { maxSteps := 4000000 }) only [↓sx0, ↓sx1, ↓sx2, ↓sx3, ↓sx4, ↓sx5, ↓sx6, sx0, sx1, sx2, sx3, sx4, sx5, sx6, tf4, ev3_hold, sxo, sxc, sxp, sxq, sxr, sxs, sxl, sxm, simprocAttr, f3, e9]
    refine amid (at_1 (hr2 _) i1_len hy rfl fun ad => ?_)
    simp (config := { maxSteps := 4000000 }) only [↓sx0, ↓sx1, ↓sx2, ↓sx3, ↓sx4, ↓sx5, ↓sx6, sx0, sx1, sx2, sx3, sx4, sx5, sx6, tf4, ev3_hold, sxo, sxc, sxp, sxq, sxr, sxs, sxl, sxm, simprocAttr, f4, e8]
    refine ⟨i + 1, _, rfl, HImp.refl _ _, ⟨by omega, fun k hk => ?_⟩, by omega⟩
    by_cases hki : k = i
    · subst hki
      rw [hxd, hyd]
      omega
    · exact hall k (by omega)
  have e7 : ((i : Int) < (inc.length : Int)) = False := eq_false (by omega)
  have bi : ∀ k, 0 ≤ inc.getD k 0 ∧ inc.getD k 0 ≤ 100000 := fun k => by
    by_cases hk : k < inc.length
    · exact (hall k (by omega)).1
    · rw [List.getD_eq_getElem?_getD, List.getElem?_eq_none (by omega)]
      simp
  have bc : ∀ k, 0 ≤ cost.getD k 0 ∧ cost.getD k 0 ≤ 100000 := fun k => by
    by_cases hk : k < cost.length
    · exact (hall k (by omega)).2
    · rw [List.getD_eq_getElem?_getD, List.getElem?_eq_none (by omega)]
      simp
  obtain ⟨E, S, O, M, pE, pL, pA, hO0, hO1, hor, pO, pO1⟩ := pur_all h5 rfl hl.symm bi bc
  refine ⟨?_⟩
  simp (config := { maxSteps := 4000000 }) only [↓sx0, ↓sx1, ↓sx2, ↓sx3, ↓sx4, ↓sx5, ↓sx6, sx0, sx1, sx2, sx3, sx4, sx5, sx6, tf4, ev3_hold, sxo, sxc, sxp, sxq, sxr, sxs, sxl, sxm, simprocAttr, e7, dn]
  refine CallOb.pureH (fun w' hp => hpu _ w' hp) ?_
  rintro q N ⟨a1, c1, a2, c2, a3, c3, rfl, hN⟩
  have hpay : ∀ (H : List HO) w', (∀ h ∈ N, h ∈ H) → Hp ⟨w, fun _ => False⟩ H w' → SX.Fn Tryz.prog 19 [.agg #[.slice a1 inc.length c1, .slice a2 inc.length c2]] w' (fun _ => False) fun q N => ∃ v, q = .tuple #[v, I E] := fun H w' hm hp => by
    have := pay_fn w' (.slice a1 inc.length c1) (.slice a2 inc.length c2) (pgs inc inc.length) (pbs cost inc.length) (row_hp (E := 73) (hm _ (hN _ (by simp))) hp) (row_hp (E := 120) (hm _ (hN _ (by simp))) hp)
    rw [pE] at this
    exact this
  have hlas : ∀ (H : List HO) w', (∀ h ∈ N, h ∈ H) → Hp ⟨w, fun _ => False⟩ H w' → SX.Fn Tryz.prog 20 [.agg #[I 0, I 0, .slice a3 inc.length c3]] w' (fun _ => False) fun q N => q = .tuple #[I S, I S, I 0] := fun H w' hm hp => by
    have := glasts_fn w' (.slice a3 inc.length c3) 0 0 (pms inc cost inc.length) (row_hp (E := 82) (hm _ (hN _ (by simp))) hp)
    rw [pL] at this
    exact this
  have happ : ∀ (H : List HO) w', (∀ h ∈ N, h ∈ H) → Hp ⟨w, fun _ => False⟩ H w' → SX.Fn Tryz.prog 21 [.agg #[I 0, I 0, .slice a3 inc.length c3]] w' (fun _ => False) fun q N => q = .tuple #[I O, I M, I 0] := fun H w' hm hp => by
    have := gappeal_fn w' (.slice a3 inc.length c3) 0 0 (pms inc cost inc.length) (row_hp (E := 82) (hm _ (hN _ (by simp))) hp)
    rw [pA] at this
    exact this
  have hcop : ∀ (H : List HO) w', (∀ h ∈ N, h ∈ H) → Hp ⟨w, fun _ => False⟩ H w' → SX.Fn Tryz.prog 22 [.agg #[.slice a1 inc.length c1, .slice a2 inc.length c2]] w' (fun _ => False) (BkP (pgs inc inc.length) (pbs cost inc.length)) := fun H w' hm hp =>
    copy11_fn w' (.slice a1 inc.length c1) (.slice a2 inc.length c2) (pgs inc inc.length) (pbs cost inc.length) (row_hp (E := 73) (hm _ (hN _ (by simp))) hp) (row_hp (E := 120) (hm _ (hN _ (by simp))) hp) (by rw [pgs_len]; omega) (by rw [pbs_len]; omega)
  refine ⟨?_⟩
  simp (config := { maxSteps := 4000000 }) only [↓sx0, ↓sx1, ↓sx2, ↓sx3, ↓sx4, ↓sx5, ↓sx6, sx0, sx1, sx2, sx3, sx4, sx5, sx6, tf4, ev3_hold, sxo, sxc, sxp, sxq, sxr, sxs, sxl, sxm, simprocAttr, dn]
  refine CallOb.pureH (fun w' hp => hpay _ w' (fun h hh => by simp [hh]) hp) ?_
  rintro q N2 ⟨v9, rfl⟩
  refine ⟨?_⟩
  simp (config := { maxSteps := 4000000 }) only [↓sx0, ↓sx1, ↓sx2, ↓sx3, ↓sx4, ↓sx5, ↓sx6, sx0, sx1, sx2, sx3, sx4, sx5, sx6, tf4, ev3_hold, sxo, sxc, sxp, sxq, sxr, sxs, sxl, sxm, simprocAttr, dn]
  refine CallOb.pureH (fun w' hp => hlas _ w' (fun h hh => by simp [hh]) hp) ?_
  rintro q N3 rfl
  refine ⟨?_⟩
  simp (config := { maxSteps := 4000000 }) only [↓sx0, ↓sx1, ↓sx2, ↓sx3, ↓sx4, ↓sx5, ↓sx6, sx0, sx1, sx2, sx3, sx4, sx5, sx6, tf4, ev3_hold, sxo, sxc, sxp, sxq, sxr, sxs, sxl, sxm, simprocAttr, dn]
  refine CallOb.pureH (fun w' hp => happ _ w' (fun h hh => by simp [hh]) hp) ?_
  rintro q N4 rfl
  have z0 : ((0 : Int) = 0) = True := eq_true rfl
  have z3 : ((3 : Int) = 3) = True := eq_true rfl
  have z1 : ((3 : Int) = 0) = False := eq_false (by omega)
  have zS : ((S : Int) = (S : Int)) = True := eq_true rfl
  have zN : ((inc.length : Int) = (inc.length : Int)) = True := eq_true rfl
  have fO : (O = 0) = (E = 0) := propext (by omega)
  have fM : (M = 0) = (E = 0) := propext (by omega)
  have fS : ((S : Int) = (inc.length : Int)) = (E = 0) := propext (by omega)
  have hE : E = 0 ∨ E = 3 := by omega
  have hlen1 := pgs_len inc inc.length
  have hlen2 := pbs_len cost inc.length
  obtain ⟨F, hF⟩ : ∃ F : Nat → Int, ∀ k, F k = if k = 0 then 0 else 3 := ⟨_, fun _ => rfl⟩
  have hpx : ∀ k : Nat, k < 2 → (k : Int) ≤ O → payE (pgx inc inc.length true (O - k)) (pbs cost inc.length) = F k := fun k hk hkO => by
    rcases (show k = 0 ∨ k = 1 by omega) with rfl | rfl
    · rw [hF, if_pos rfl]
      simpa using pO
    · rw [hF, if_neg (by omega)]
      exact pO1 (by omega)
  obtain ⟨p, hp⟩ : ∃ p : Bool, p = decide (E = 0) := ⟨_, rfl⟩
  have gO : (O == 0) = p := by rw [hp, Bool.eq_iff_iff, beq_iff_eq, decide_eq_true_eq]; omega
  have gM : (M == 0) = p := by rw [hp, Bool.eq_iff_iff, beq_iff_eq, decide_eq_true_eq]; omega
  have gS : ((S : Int) == (inc.length : Int)) = p := by rw [hp, Bool.eq_iff_iff, beq_iff_eq, decide_eq_true_eq]; omega
  clear pE pL pA pO pO1 hor hpu hpay hlas happ fO fM fS
  rcases hE with rfl | rfl
  · rw [show p = true from hp] at gO gM gS
    refine ⟨?_⟩
    simp (config := { maxSteps := 4000000 }) only [↓sx0, ↓sx1, ↓sx2, ↓sx3, ↓sx4, ↓sx5, ↓sx6, sx0, sx1, sx2, sx3, sx4, sx5, sx6, tf4, ev3_hold, sxo, sxc, sxp, sxq, sxr, sxs, sxl, sxm, simprocAttr, gO, gM, gS, z0, z1, z3, zS, zN]
    refine loop_constH (N4 ++ (N3 ++ (N2 ++ N))) (HImp.sub (by simp)) [(4, 4), (16, 19), (129, 167)] (fun k : Nat => [(16, I k)]) (fun k H5 => k ≤ 2 ∧ ∀ h ∈ N, h ∈ H5) (fun k => 2 - k) 0 ?_ ⟨by omega, fun h hh => by simp [hh]⟩ ?_
    · simp (config := { maxSteps := 4000000 }) only [↓sx0, ↓sx1, ↓sx2, ↓sx3, ↓sx4, ↓sx5, ↓sx6, sx0, sx1, sx2, sx3, sx4, sx5, sx6, tf4, ev3_hold, sxo, sxc, sxp, sxq, sxr, sxs, sxl, sxm, simprocAttr]
      try simp
    rintro k H5 g5 ⟨hk, hm5⟩
    by_cases hk2 : k = 2
    · have q7 : ((k : Int) < 2) = False := eq_false (by omega)
      refine ⟨?_⟩
      simp (config := { maxSteps := 4000000 }) only [↓sx0, ↓sx1, ↓sx2, ↓sx3, ↓sx4, ↓sx5, ↓sx6, sx0, sx1, sx2, sx3, sx4, sx5, sx6, tf4, ev3_hold, sxo, sxc, sxp, sxq, sxr, sxs, sxl, sxm, simprocAttr, q7, dn]
      refine CallOb.pureH (fun w' hp => hlv _ w' hp) ?_
      rintro q NN rfl
      refine ⟨?_⟩
      simp (config := { maxSteps := 4000000 }) only [↓sx0, ↓sx1, ↓sx2, ↓sx3, ↓sx4, ↓sx5, ↓sx6, sx0, sx1, sx2, sx3, sx4, sx5, sx6, tf4, ev3_hold, sxo, sxc, sxp, sxq, sxr, sxs, sxl, sxm, simprocAttr]
    have q7 : ((k : Int) < 2) = True := eq_true (by omega)
    by_cases hkO : (k : Int) ≤ O
    case neg =>
      have q8 : ((k : Int) ≤ O) = False := eq_false hkO
      refine ⟨?_⟩
      simp (config := { maxSteps := 4000000 }) only [↓sx0, ↓sx1, ↓sx2, ↓sx3, ↓sx4, ↓sx5, ↓sx6, sx0, sx1, sx2, sx3, sx4, sx5, sx6, tf4, ev3_hold, sxo, sxc, sxp, sxq, sxr, sxs, sxl, sxm, simprocAttr, q7, q8, dn]
      refine CallOb.pureH (fun w' hp => hlv _ w' hp) ?_
      rintro q NN rfl
      refine ⟨?_⟩
      simp (config := { maxSteps := 4000000 }) only [↓sx0, ↓sx1, ↓sx2, ↓sx3, ↓sx4, ↓sx5, ↓sx6, sx0, sx1, sx2, sx3, sx4, sx5, sx6, tf4, ev3_hold, sxo, sxc, sxp, sxq, sxr, sxs, sxl, sxm, simprocAttr]
    have q8 : ((k : Int) ≤ O) = True := eq_true hkO
    have q9 : wr ((k : Int) + 1) = ((k + 1 : Nat) : Int) := (wrap_id (by omega)).trans (by omega)
    have s1 : wr (O - (k : Int)) = O - k := wrap_id (by omega)
    have hpk := hpx k (by omega) hkO
    refine ⟨?_⟩
    simp (config := { maxSteps := 4000000 }) only [↓sx0, ↓sx1, ↓sx2, ↓sx3, ↓sx4, ↓sx5, ↓sx6, sx0, sx1, sx2, sx3, sx4, sx5, sx6, tf4, ev3_hold, sxo, sxc, sxp, sxq, sxr, sxs, sxl, sxm, simprocAttr, q7, q8, dn]
    refine CallOb.pureH (fun w' hp => hcop _ w' hm5 hp) ?_
    rintro q N5 ⟨a5, c5, a6, c6, rfl, hN5, hI5⟩
    rw [hlen1, hlen2] at hN5 hI5
    rw [hlen1, hlen2]
    have hpgx : pgs inc inc.length ++ [((255 : Int), (0 : Int), O - (k : Int))] = pgx inc inc.length true (O - k) := rfl
    have hpy : ∀ (ad : Addr) (cc : Nat) (H : List HO) w', HO.row (.slice (some ad) (inc.length + 1) cc) 73 3 (cat ldc (pgx inc inc.length true (O - k))) ∈ H → HO.row (.slice a6 inc.length c6) 120 3 (cat ldc (pbs cost inc.length)) ∈ H → Hp ⟨w, fun _ => False⟩ H w' → SX.Fn Tryz.prog 19 [.agg #[.slice (some ad) (inc.length + 1) cc, .slice a6 inc.length c6]] w' (fun _ => False) fun q N => ∃ v, q = .tuple #[v, I (F k)] := fun ad cc H w' m1 m2 hp => by
      have := pay_fn w' (.slice (some ad) (inc.length + 1) cc) (.slice a6 inc.length c6) (pgx inc inc.length true (O - k)) (pbs cost inc.length) (row_hp (E := 73) m1 hp) (row_hp (E := 120) m2 hp)
      rw [hpk] at this
      exact this
    refine ⟨?_⟩
    simp (config := { maxSteps := 4000000 }) only [↓sx0, ↓sx1, ↓sx2, ↓sx3, ↓sx4, ↓sx5, ↓sx6, sx0, sx1, sx2, sx3, sx4, sx5, sx6, tf4, ev3_hold, sxo, sxc, sxp, sxq, sxr, sxs, sxl, sxm, simprocAttr, s1]
    intro bx
    refine app_one (l := pgs inc inc.length) (255, 0, O - (k : Int)) (hI5 _ H5) ldc_len ldc_one (by rw [hlen1]; omega) fun ad cc => ?_
    rw [hlen1, hpgx]
    simp (config := { maxSteps := 4000000 }) only [↓sx0, ↓sx1, ↓sx2, ↓sx3, ↓sx4, ↓sx5, ↓sx6, sx0, sx1, sx2, sx3, sx4, sx5, sx6, tf4, ev3_hold, sxo, sxc, sxp, sxq, sxr, sxs, sxl, sxm, simprocAttr, dn]
    refine CallOb.pureH (fun w' hp => hpy ad cc _ w' (by simp) (by simp) hp) ?_
    rintro q N6 ⟨v8, rfl⟩
    rcases (show k = 0 ∨ k = 1 by omega) with hk0 | hk0
    · have g0 : ((k : Int) == 0) = true := by rw [hk0]; rfl
      have g1 : ((k : Int) = 0) = True := eq_true (by omega)
      have g2 : ((k : Int) = 1) = False := eq_false (by omega)
      have hF0 : F k = 0 := by rw [hF, if_pos hk0]
      rw [hF0]
      refine ⟨?_⟩
      simp (config := { maxSteps := 4000000 }) only [↓sx0, ↓sx1, ↓sx2, ↓sx3, ↓sx4, ↓sx5, ↓sx6, sx0, sx1, sx2, sx3, sx4, sx5, sx6, tf4, ev3_hold, sxo, sxc, sxp, sxq, sxr, sxs, sxl, sxm, simprocAttr, g0, g1, g2, z0, q9]
      exact ⟨k + 1, _, rfl, HImp.refl _ _, ⟨by omega, fun h hh => by simp [hm5 h hh]⟩, by omega⟩
    · have g0 : ((k : Int) == 0) = false := by rw [hk0]; rfl
      have g1 : ((k : Int) = 0) = False := eq_false (by omega)
      have g2 : ((k : Int) = 1) = True := eq_true (by omega)
      have g3 : ((k : Int) == 1) = true := by rw [hk0]; rfl
      have hF0 : F k = 3 := by rw [hF, if_neg (by omega)]
      rw [hF0]
      refine ⟨?_⟩
      simp (config := { maxSteps := 4000000 }) only [↓sx0, ↓sx1, ↓sx2, ↓sx3, ↓sx4, ↓sx5, ↓sx6, sx0, sx1, sx2, sx3, sx4, sx5, sx6, tf4, ev3_hold, sxo, sxc, sxp, sxq, sxr, sxs, sxl, sxm, simprocAttr, g0, g1, g2, g3, z3, q9]
      exact ⟨k + 1, _, rfl, HImp.refl _ _, ⟨by omega, fun h hh => by simp [hm5 h hh]⟩, by omega⟩
  · rw [show p = false from hp] at gO gM gS
    refine ⟨?_⟩
    simp (config := { maxSteps := 4000000 }) only [↓sx0, ↓sx1, ↓sx2, ↓sx3, ↓sx4, ↓sx5, ↓sx6, sx0, sx1, sx2, sx3, sx4, sx5, sx6, tf4, ev3_hold, sxo, sxc, sxp, sxq, sxr, sxs, sxl, sxm, simprocAttr, gO, gM, gS, z0, z1, z3, zS, zN]
    refine loop_constH (N4 ++ (N3 ++ (N2 ++ N))) (HImp.sub (by simp)) [(4, 4), (16, 19), (129, 167)] (fun k : Nat => [(16, I k)]) (fun k H5 => k ≤ 2 ∧ ∀ h ∈ N, h ∈ H5) (fun k => 2 - k) 0 ?_ ⟨by omega, fun h hh => by simp [hh]⟩ ?_
    · simp (config := { maxSteps := 4000000 }) only [↓sx0, ↓sx1, ↓sx2, ↓sx3, ↓sx4, ↓sx5, ↓sx6, sx0, sx1, sx2, sx3, sx4, sx5, sx6, tf4, ev3_hold, sxo, sxc, sxp, sxq, sxr, sxs, sxl, sxm, simprocAttr]
      try simp
    rintro k H5 g5 ⟨hk, hm5⟩
    by_cases hk2 : k = 2
    · have q7 : ((k : Int) < 2) = False := eq_false (by omega)
      refine ⟨?_⟩
      simp (config := { maxSteps := 4000000 }) only [↓sx0, ↓sx1, ↓sx2, ↓sx3, ↓sx4, ↓sx5, ↓sx6, sx0, sx1, sx2, sx3, sx4, sx5, sx6, tf4, ev3_hold, sxo, sxc, sxp, sxq, sxr, sxs, sxl, sxm, simprocAttr, q7, dn]
      refine CallOb.pureH (fun w' hp => hlv _ w' hp) ?_
      rintro q NN rfl
      refine ⟨?_⟩
      simp (config := { maxSteps := 4000000 }) only [↓sx0, ↓sx1, ↓sx2, ↓sx3, ↓sx4, ↓sx5, ↓sx6, sx0, sx1, sx2, sx3, sx4, sx5, sx6, tf4, ev3_hold, sxo, sxc, sxp, sxq, sxr, sxs, sxl, sxm, simprocAttr]
    have q7 : ((k : Int) < 2) = True := eq_true (by omega)
    by_cases hkO : (k : Int) ≤ O
    case neg =>
      have q8 : ((k : Int) ≤ O) = False := eq_false hkO
      refine ⟨?_⟩
      simp (config := { maxSteps := 4000000 }) only [↓sx0, ↓sx1, ↓sx2, ↓sx3, ↓sx4, ↓sx5, ↓sx6, sx0, sx1, sx2, sx3, sx4, sx5, sx6, tf4, ev3_hold, sxo, sxc, sxp, sxq, sxr, sxs, sxl, sxm, simprocAttr, q7, q8, dn]
      refine CallOb.pureH (fun w' hp => hlv _ w' hp) ?_
      rintro q NN rfl
      refine ⟨?_⟩
      simp (config := { maxSteps := 4000000 }) only [↓sx0, ↓sx1, ↓sx2, ↓sx3, ↓sx4, ↓sx5, ↓sx6, sx0, sx1, sx2, sx3, sx4, sx5, sx6, tf4, ev3_hold, sxo, sxc, sxp, sxq, sxr, sxs, sxl, sxm, simprocAttr]
    have q8 : ((k : Int) ≤ O) = True := eq_true hkO
    have q9 : wr ((k : Int) + 1) = ((k + 1 : Nat) : Int) := (wrap_id (by omega)).trans (by omega)
    have s1 : wr (O - (k : Int)) = O - k := wrap_id (by omega)
    have hpk := hpx k (by omega) hkO
    refine ⟨?_⟩
    simp (config := { maxSteps := 4000000 }) only [↓sx0, ↓sx1, ↓sx2, ↓sx3, ↓sx4, ↓sx5, ↓sx6, sx0, sx1, sx2, sx3, sx4, sx5, sx6, tf4, ev3_hold, sxo, sxc, sxp, sxq, sxr, sxs, sxl, sxm, simprocAttr, q7, q8, dn]
    refine CallOb.pureH (fun w' hp => hcop _ w' hm5 hp) ?_
    rintro q N5 ⟨a5, c5, a6, c6, rfl, hN5, hI5⟩
    rw [hlen1, hlen2] at hN5 hI5
    rw [hlen1, hlen2]
    have hpgx : pgs inc inc.length ++ [((255 : Int), (0 : Int), O - (k : Int))] = pgx inc inc.length true (O - k) := rfl
    have hpy : ∀ (ad : Addr) (cc : Nat) (H : List HO) w', HO.row (.slice (some ad) (inc.length + 1) cc) 73 3 (cat ldc (pgx inc inc.length true (O - k))) ∈ H → HO.row (.slice a6 inc.length c6) 120 3 (cat ldc (pbs cost inc.length)) ∈ H → Hp ⟨w, fun _ => False⟩ H w' → SX.Fn Tryz.prog 19 [.agg #[.slice (some ad) (inc.length + 1) cc, .slice a6 inc.length c6]] w' (fun _ => False) fun q N => ∃ v, q = .tuple #[v, I (F k)] := fun ad cc H w' m1 m2 hp => by
      have := pay_fn w' (.slice (some ad) (inc.length + 1) cc) (.slice a6 inc.length c6) (pgx inc inc.length true (O - k)) (pbs cost inc.length) (row_hp (E := 73) m1 hp) (row_hp (E := 120) m2 hp)
      rw [hpk] at this
      exact this
    refine ⟨?_⟩
    simp (config := { maxSteps := 4000000 }) only [↓sx0, ↓sx1, ↓sx2, ↓sx3, ↓sx4, ↓sx5, ↓sx6, sx0, sx1, sx2, sx3, sx4, sx5, sx6, tf4, ev3_hold, sxo, sxc, sxp, sxq, sxr, sxs, sxl, sxm, simprocAttr, s1]
    intro bx
    refine app_one (l := pgs inc inc.length) (255, 0, O - (k : Int)) (hI5 _ H5) ldc_len ldc_one (by rw [hlen1]; omega) fun ad cc => ?_
    rw [hlen1, hpgx]
    simp (config := { maxSteps := 4000000 }) only [↓sx0, ↓sx1, ↓sx2, ↓sx3, ↓sx4, ↓sx5, ↓sx6, sx0, sx1, sx2, sx3, sx4, sx5, sx6, tf4, ev3_hold, sxo, sxc, sxp, sxq, sxr, sxs, sxl, sxm, simprocAttr, dn]
    refine CallOb.pureH (fun w' hp => hpy ad cc _ w' (by simp) (by simp) hp) ?_
    rintro q N6 ⟨v8, rfl⟩
    rcases (show k = 0 ∨ k = 1 by omega) with hk0 | hk0
    · have g0 : ((k : Int) == 0) = true := by rw [hk0]; rfl
      have g1 : ((k : Int) = 0) = True := eq_true (by omega)
      have g2 : ((k : Int) = 1) = False := eq_false (by omega)
      have hF0 : F k = 0 := by rw [hF, if_pos hk0]
      rw [hF0]
      refine ⟨?_⟩
      simp (config := { maxSteps := 4000000 }) only [↓sx0, ↓sx1, ↓sx2, ↓sx3, ↓sx4, ↓sx5, ↓sx6, sx0, sx1, sx2, sx3, sx4, sx5, sx6, tf4, ev3_hold, sxo, sxc, sxp, sxq, sxr, sxs, sxl, sxm, simprocAttr, g0, g1, g2, z0, q9]
      exact ⟨k + 1, _, rfl, HImp.refl _ _, ⟨by omega, fun h hh => by simp [hm5 h hh]⟩, by omega⟩
    · have g0 : ((k : Int) == 0) = false := by rw [hk0]; rfl
      have g1 : ((k : Int) = 0) = False := eq_false (by omega)
      have g2 : ((k : Int) = 1) = True := eq_true (by omega)
      have g3 : ((k : Int) == 1) = true := by rw [hk0]; rfl
      have hF0 : F k = 3 := by rw [hF, if_neg (by omega)]
      rw [hF0]
      refine ⟨?_⟩
      simp (config := { maxSteps := 4000000 }) only [↓sx0, ↓sx1, ↓sx2, ↓sx3, ↓sx4, ↓sx5, ↓sx6, sx0, sx1, sx2, sx3, sx4, sx5, sx6, tf4, ev3_hold, sxo, sxc, sxp, sxq, sxr, sxs, sxl, sxm, simprocAttr, g0, g1, g2, g3, z3, q9]
      exact ⟨k + 1, _, rfl, HImp.refl _ _, ⟨by omega, fun h hh => by simp [hm5 h hh]⟩, by omega⟩
end Go.Proofs.YtnbogcpnpcbjgaaGreatDoor
