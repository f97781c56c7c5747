/- A part of a proof: the symbolic walk and what it shows of single functions. -/
import Derived.Test.YtogicfoigeongaaGreatDoorM1
set_option linter.all false
namespace Go.Proofs.YtogicfoigeongaaGreatDoor
open Go.RowKit Go.SX
set_option maxRecDepth 10000
set_option maxHeartbeats 0
set_option linter.unusedSimpArgs false
set_option linter.unusedVariables false
theorem topReached_fn (w : World) (hw : Ways w) (v : Value) (c : Cht) (hc : ChOk w v c) (b : Cls) (o : Ord5) : SX.Fn Tryz.prog 3 [v, clv b, orv o] w (fun _ => False) fun r N => r = .bool true := by
  have dn : ∀ (g : Nat) (xs : List Value), det0 g xs = none := fun _ _ => rfl
  have hro := fun (H : List HO) w' (hp : Hp ⟨w, fun _ => False⟩ H w') => routed_fn w' (hw.hp hp)
  have hfar := fun (H : List HO) w' (hp : Hp ⟨w, fun _ => False⟩ H w') => far6_fn w' v c (hc.hp hp)
  have hgo := fun (hs : c.small) (H : List HO) w' (hp : Hp ⟨w, fun _ => False⟩ H w') => rgo_fn w' (hw.hp hp) v c (hc.hp hp) hs b o.r o.t o.f o.tc o.ts
  have hre := fun (hs : c.small) (H : List HO) w' (hp : Hp ⟨w, fun _ => False⟩ H w') => lreach_fn w' (hw.hp hp) v c (hc.hp hp) hs b o.r o.t
  have hc0 := hc
  obtain ⟨sD, sT, sS, rfl, hsD, hsT, hsS⟩ := hc
  have hrt := fun (hs : c.small) (hok : c.ok) (A F G : Nat) (hkd : kindB 0 b.draught = true) (hA : A < c.tide.length) (hF : F < c.depth.length) (hG : G < c.depth.length) (H : List HO) w' (hp : Hp ⟨w, fun _ => False⟩ H w') => lRoute_fn w' (hw.hp hp) sD sT sS c (hc0.hp hp) hs hok b.draught false A F G hkd hA hF hG
  obtain ⟨aD, nD, cD, rfl⟩ := hsD.shape
  have hnD := hsD.le i1_len (by omega)
  subst hnD
  obtain ⟨aS, nS, cS, rfl⟩ := hsS.shape
  have hnS := hsS.le i1_len (by omega)
  subst hnS
  have hrS := fun H => hsS.rd0 H
  obtain ⟨⟨rc, rd, rl, rm, rs⟩, t, f, tc, ts⟩ := o
  obtain ⟨bd, bs, bm, bi, br, bse, bmo⟩ := b
  unfold ReachP at hre
  unfold clv rmv at hgo hre
  unfold clv orv
  unfold trv at hrt
  simp only [] at hgo hre hrt ⊢
  refine walk [] [] (det0_ok _ _) Tryz.func3 rfl Tryz.ntmps3 res3 (by kernel_rfl) no_facts ?_
  simp (config := { maxSteps := 4000000 }) only [↓sx0, ↓sx1, ↓sx2, ↓sx3, ↓sx4, ↓sx5, ↓sx6, sx0, sx1, sx2, sx3, sx4, sx5, sx6, tf3, ev3_hold, sxo, sxc, sxp, sxq, sxr, sxs, sxl, sxm, simprocAttr, dn]
  refine CallOb.pureH (fun w' hp => hfar _ w' hp) ?_
  rintro q N ⟨B, rfl, hB⟩
  cases B with
  | true =>
    refine ⟨?_⟩
    simp (config := { maxSteps := 4000000 }) only [↓sx0, ↓sx1, ↓sx2, ↓sx3, ↓sx4, ↓sx5, ↓sx6, sx0, sx1, sx2, sx3, sx4, sx5, sx6, tf3, ev3_hold, sxo, sxc, sxp, sxq, sxr, sxs, sxl, sxm, simprocAttr, dn]
    refine CallOb.pureH (fun w' hp => hro _ w' hp) ?_
    rintro q N2 rfl
    refine ⟨?_⟩
    simp (config := { maxSteps := 4000000 }) only [↓sx0, ↓sx1, ↓sx2, ↓sx3, ↓sx4, ↓sx5, ↓sx6, sx0, sx1, sx2, sx3, sx4, sx5, sx6, tf3, ev3_hold, sxo, sxc, sxp, sxq, sxr, sxs, sxl, sxm, simprocAttr, dn]
    try rfl
  | false =>
  have hs := hB rfl
  have hgo := hgo hs
  have hre := hre hs
  have hrt := hrt hs
  obtain ⟨E, hE⟩ : ∃ E, goE c ⟨bd, bs, bm, bi, br, bse, bmo⟩ ⟨rc, rd, rl, rm, rs⟩ t f tc ts = E := ⟨_, rfl⟩
  rw [hE] at hgo
  refine ⟨?_⟩
  simp (config := { maxSteps := 4000000 }) only [↓sx0, ↓sx1, ↓sx2, ↓sx3, ↓sx4, ↓sx5, ↓sx6, sx0, sx1, sx2, sx3, sx4, sx5, sx6, tf3, ev3_hold, sxo, sxc, sxp, sxq, sxr, sxs, sxl, sxm, simprocAttr, dn]
  refine CallOb.pureH (fun w' hp => hgo _ w' hp) ?_
  rintro q N2 rfl
  by_cases hE0 : E = 0
  case neg =>
    have z0 : (E = 0) = False := eq_false hE0
    refine ⟨?_⟩
    simp (config := { maxSteps := 4000000 }) only [↓sx0, ↓sx1, ↓sx2, ↓sx3, ↓sx4, ↓sx5, ↓sx6, sx0, sx1, sx2, sx3, sx4, sx5, sx6, tf3, ev3_hold, sxo, sxc, sxp, sxq, sxr, sxs, sxl, sxm, simprocAttr, z0, dn]
    refine CallOb.pureH (fun w' hp => hro _ w' hp) ?_
    rintro q N2 rfl
    refine ⟨?_⟩
    simp (config := { maxSteps := 4000000 }) only [↓sx0, ↓sx1, ↓sx2, ↓sx3, ↓sx4, ↓sx5, ↓sx6, sx0, sx1, sx2, sx3, sx4, sx5, sx6, tf3, ev3_hold, sxo, sxc, sxp, sxq, sxr, sxs, sxl, sxm, simprocAttr, dn]
    try rfl
  have z0 : (E = 0) = True := eq_true hE0
  obtain ⟨hst, htc, hts⟩ := goE_zero (hE.trans hE0)
  obtain ⟨hok, hcl, hrp, ht, hf⟩ := staE_zero hst
  have hst0 : staE c ⟨bd, bs, bm, bi, br, bse, bmo⟩ ⟨rc, rd, rl, rm, rs⟩ t 0 = 0 := by
    unfold staE at hst ⊢
    rw [(okB_iff c).2 hok, hcl, hrp, (inB_iff _ _ _).2 ht] at hst ⊢
    rfl
  have hrcell : 0 ≤ rc ∧ rc ≤ (c.depth.length : Int) - 1 := ramp_cell hrp
  have hbd : 1 ≤ bd ∧ bd ≤ 100 := ((clsB_iff _).1 hcl).1
  have hkd : kindB 0 bd = true := by
    unfold kindB
    rw [if_pos rfl]
    exact (inB_iff _ _ _).2 hbd
  have hrt := hrt hok t.toNat rc.toNat tc.toNat hkd (by omega) (by omega) (by omega)
  rw [show ((t.toNat : Nat) : Int) = t by omega, show ((rc.toNat : Nat) : Int) = rc by omega, show ((tc.toNat : Nat) : Int) = tc by omega] at hrt
  have hkn := fun n hn h0 => reach_known hok (b := ⟨bd, bs, bm, bi, br, bse, bmo⟩) (r := ⟨rc, rd, rl, rm, rs⟩) (t := t.toNat) (K := tc.toNat) hrcell (by omega) (by omega) (n := n) hn h0
  have hrl : (reachL c ⟨bd, bs, bm, bi, br, bse, bmo⟩ ⟨rc, rd, rl, rm, rs⟩ t.toNat).length = c.depth.length := by
    unfold reachL
    split
    · rw [List.length_map, List.length_range]
    · rw [List.length_replicate]
  rw [hst0] at hre
  obtain ⟨RL, hRL⟩ : ∃ RL, reachL c ⟨bd, bs, bm, bi, br, bse, bmo⟩ ⟨rc, rd, rl, rm, rs⟩ t.toNat = RL := ⟨_, rfl⟩
  simp only [hRL] at hkn
  rw [hRL] at hre hrl
  refine ⟨?_⟩
  simp (config := { maxSteps := 4000000 }) only [↓sx0, ↓sx1, ↓sx2, ↓sx3, ↓sx4, ↓sx5, ↓sx6, sx0, sx1, sx2, sx3, sx4, sx5, sx6, tf3, ev3_hold, sxo, sxc, sxp, sxq, sxr, sxs, sxl, sxm, simprocAttr, z0, dn]
  refine CallOb.pureH (fun w' hp => hre _ w' hp) ?_
  rintro q N3 (⟨hno, _⟩ | ⟨_, x, rfl, hG⟩)
  · exact absurd rfl hno
  obtain ⟨ax, cx, rfl⟩ := hG.shape
  rw [hrl] at hG ⊢
  have hT60 := hok.2.2.2.1
  obtain ⟨n, hn⟩ : ∃ n, RL.getD tc.toNat 0 = n := ⟨_, rfl⟩
  have hn1 : RL[tc.toNat]? = some n := by rw [← hn]; exact getD_at (by omega) 0
  have f1 : (tc < (c.depth.length : Int)) = True := eq_true (by omega)
  refine ⟨?_⟩
  simp (config := { maxSteps := 4000000 }) only [↓sx0, ↓sx1, ↓sx2, ↓sx3, ↓sx4, ↓sx5, ↓sx6, sx0, sx1, sx2, sx3, sx4, sx5, sx6, tf3, ev3_hold, sxo, sxc, sxp, sxq, sxr, sxs, sxl, sxm, simprocAttr, f1, dn]
  refine ⟨by omega, (at_1 (k := tc.toNat) (hG.rdv i1_len (fun h hh => by simp [hh])) i1_len hn1 rfl fun ad => ?_).2.2⟩
  by_cases hn0 : n < 0
  · have z1 : (n < 0) = True := eq_true hn0
    simp (config := { maxSteps := 4000000 }) only [↓sx0, ↓sx1, ↓sx2, ↓sx3, ↓sx4, ↓sx5, ↓sx6, sx0, sx1, sx2, sx3, sx4, sx5, sx6, tf3, ev3_hold, sxo, sxc, sxp, sxq, sxr, sxs, sxl, sxm, simprocAttr, z1, dn]
    refine CallOb.pureH (fun w' hp => hro _ w' hp) ?_
    rintro q N5 rfl
    refine ⟨?_⟩
    simp (config := { maxSteps := 4000000 }) only [↓sx0, ↓sx1, ↓sx2, ↓sx3, ↓sx4, ↓sx5, ↓sx6, sx0, sx1, sx2, sx3, sx4, sx5, sx6, tf3, ev3_hold, sxo, sxc, sxp, sxq, sxr, sxs, sxl, sxm, simprocAttr]
    try rfl
  have z1 : (n < 0) = False := eq_false hn0
  obtain ⟨hcan, hnv⟩ := hkn n hn (by omega)
  simp (config := { maxSteps := 4000000 }) only [↓sx0, ↓sx1, ↓sx2, ↓sx3, ↓sx4, ↓sx5, ↓sx6, sx0, sx1, sx2, sx3, sx4, sx5, sx6, tf3, ev3_hold, sxo, sxc, sxp, sxq, sxr, sxs, sxl, sxm, simprocAttr, z1, dn]
  refine CallOb.pureH (fun w' hp => hrt _ w' hp) ?_
  rintro q N4 ⟨q, e, rfl, hq⟩
  have hk0 : rc.toNat < c.depth.length := by omega
  rcases hq with ⟨p, hp, hpn, hGot, rfl⟩ | ⟨rfl, rfl, hno⟩
  case inr => exact absurd hno (reach_some hok hk0 (show t.toNat < c.tide.length by omega) (show tc.toNat < c.depth.length by omega) hcan (by rw [← hnv]; omega))
  obtain ⟨hle, hcalm⟩ := reach_route hok hk0 (show t.toNat < c.tide.length by omega) (show tc.toNat < c.depth.length by omega) hcan (by rw [← hnv]; omega) hp
  rw [← hnv] at hle hcalm
  obtain ⟨hp1, hp2⟩ := hp.len
  obtain ⟨pa, pc, rfl, _, _⟩ := hGot
  have hnl : (nts p).length = p.length := by unfold nts; rw [List.length_map]
  rw [hnl]
  have ew1 : wr (t + (p.length : Int)) = t + (p.length : Int) := wrap_id (by omega)
  have ew2 : wr (t + (p.length : Int) - 1) = t + (p.length : Int) - 1 := wrap_id (by omega)
  have z2 : (t + (p.length : Int) - 1 > n) = False := eq_false (by omega)
  have hsw : c.swell.length = c.tide.length := hok.2.2.2.2.1
  refine ⟨?_⟩
  simp (config := { maxSteps := 4000000 }) only [↓sx0, ↓sx1, ↓sx2, ↓sx3, ↓sx4, ↓sx5, ↓sx6, sx0, sx1, sx2, sx3, sx4, sx5, sx6, tf3, ev3_hold, sxo, sxc, sxp, sxq, sxr, sxs, sxl, sxm, simprocAttr, ew1, ew2, z2, dn]
  refine loop_constH [] (HImp.nil _ _) [(12, 13), (88, 105)] (fun q : Nat × Bool => [(12, .bool q.2), (13, I q.1)]) (fun q H1 => q.1 ≤ c.swell.length ∧ (q.2 = true → ∀ s, s < q.1 → c.swl s ≤ bs) ∧ H1 = []) (fun q => c.swell.length - q.1) (0, true) ?_ ⟨Nat.zero_le _, fun _ s h => by omega, rfl⟩ ?_
  · simp (config := { maxSteps := 4000000 }) only [↓sx0, ↓sx1, ↓sx2, ↓sx3, ↓sx4, ↓sx5, ↓sx6, sx0, sx1, sx2, sx3, sx4, sx5, sx6, tf3, ev3_hold, sxo, sxc, sxp, sxq, sxr, sxs, sxl, sxm, simprocAttr]
    try simp
  rintro ⟨i, cb⟩ H1 g1 hinv
  simp only [] at hinv
  obtain ⟨hi, hcb, rfl⟩ := hinv
  by_cases hin : i = c.swell.length
  · subst hin
    have e7 : ((c.swell.length : Int) < (c.swell.length : Int)) = False := eq_false (by omega)
    cases cb with
    | false =>
      refine ⟨?_⟩
      simp (config := { maxSteps := 4000000 }) only [↓sx0, ↓sx1, ↓sx2, ↓sx3, ↓sx4, ↓sx5, ↓sx6, sx0, sx1, sx2, sx3, sx4, sx5, sx6, tf3, ev3_hold, sxo, sxc, sxp, sxq, sxr, sxs, sxl, sxm, simprocAttr, e7, dn]
      refine CallOb.pureH (fun w' hp => hro _ w' hp) ?_
      rintro q N5 rfl
      refine ⟨?_⟩
      simp (config := { maxSteps := 4000000 }) only [↓sx0, ↓sx1, ↓sx2, ↓sx3, ↓sx4, ↓sx5, ↓sx6, sx0, sx1, sx2, sx3, sx4, sx5, sx6, tf3, ev3_hold, sxo, sxc, sxp, sxq, sxr, sxs, sxl, sxm, simprocAttr]
      try rfl
    | true =>
      have heq := hcalm fun s hs => hcb rfl s (by omega)
      have z3 : (t + (p.length : Int) - 1 = n) = True := eq_true (by omega)
      refine ⟨?_⟩
      simp (config := { maxSteps := 4000000 }) only [↓sx0, ↓sx1, ↓sx2, ↓sx3, ↓sx4, ↓sx5, ↓sx6, sx0, sx1, sx2, sx3, sx4, sx5, sx6, tf3, ev3_hold, sxo, sxc, sxp, sxq, sxr, sxs, sxl, sxm, simprocAttr, e7, ew1, ew2, z3, dn]
      refine CallOb.pureH (fun w' hp => hro _ w' hp) ?_
      rintro q N5 rfl
      refine ⟨?_⟩
      simp (config := { maxSteps := 4000000 }) only [↓sx0, ↓sx1, ↓sx2, ↓sx3, ↓sx4, ↓sx5, ↓sx6, sx0, sx1, sx2, sx3, sx4, sx5, sx6, tf3, ev3_hold, sxo, sxc, sxp, sxq, sxr, sxs, sxl, sxm, simprocAttr]
      try rfl
  have e7 : ((i : Int) < (c.swell.length : Int)) = True := eq_true (by omega)
  have e8 : wr (i + 1) = ((i + 1 : Nat) : Int) := (wrap_id (by omega)).trans (by omega)
  cases cb with
  | false =>
    refine ⟨?_⟩
    simp (config := { maxSteps := 4000000 }) only [↓sx0, ↓sx1, ↓sx2, ↓sx3, ↓sx4, ↓sx5, ↓sx6, sx0, sx1, sx2, sx3, sx4, sx5, sx6, tf3, ev3_hold, sxo, sxc, sxp, sxq, sxr, sxs, sxl, sxm, simprocAttr, e7, e8]
    exact ⟨(i + 1, false), _, by first | exact ⟨rfl, rfl⟩ | exact ⟨rfl, trivial⟩ | rfl, HImp.nil _ _, ⟨by simp only []; omega, fun h => (by cases h), rfl⟩, by simp only []; omega⟩
  | true =>
    have hz : c.swell[i]? = some (c.swl i) := getD_at (by omega) 0
    obtain ⟨z, hze⟩ : ∃ z, c.swl i = z := ⟨_, rfl⟩
    rw [hze] at hz
    by_cases hzb : z ≤ bs
    · have z4 : (z ≤ bs) = True := eq_true hzb
      refine ⟨?_⟩
      simp (config := { maxSteps := 4000000 }) only [↓sx0, ↓sx1, ↓sx2, ↓sx3, ↓sx4, ↓sx5, ↓sx6, sx0, sx1, sx2, sx3, sx4, sx5, sx6, tf3, ev3_hold, sxo, sxc, sxp, sxq, sxr, sxs, sxl, sxm, simprocAttr, e7]
      refine amid (at_1 (hrS _) i1_len hz rfl fun ad => ?_)
      simp (config := { maxSteps := 4000000 }) only [↓sx0, ↓sx1, ↓sx2, ↓sx3, ↓sx4, ↓sx5, ↓sx6, sx0, sx1, sx2, sx3, sx4, sx5, sx6, tf3, ev3_hold, sxo, sxc, sxp, sxq, sxr, sxs, sxl, sxm, simprocAttr, z4, e8]
      refine ⟨(i + 1, true), _, by first | exact ⟨rfl, rfl⟩ | exact ⟨rfl, trivial⟩ | rfl, HImp.nil _ _, ⟨by simp only []; omega, fun _ s hs => ?_, rfl⟩, by simp only []; omega⟩
      simp only [] at hs
      by_cases e : s = i
      · subst e
        rw [hze]
        exact hzb
      · exact hcb rfl s (by omega)
    · have z4 : (z ≤ bs) = False := eq_false hzb
      refine ⟨?_⟩
      simp (config := { maxSteps := 4000000 }) only [↓sx0, ↓sx1, ↓sx2, ↓sx3, ↓sx4, ↓sx5, ↓sx6, sx0, sx1, sx2, sx3, sx4, sx5, sx6, tf3, ev3_hold, sxo, sxc, sxp, sxq, sxr, sxs, sxl, sxm, simprocAttr, e7]
      refine amid (at_1 (hrS _) i1_len hz rfl fun ad => ?_)
      simp (config := { maxSteps := 4000000 }) only [↓sx0, ↓sx1, ↓sx2, ↓sx3, ↓sx4, ↓sx5, ↓sx6, sx0, sx1, sx2, sx3, sx4, sx5, sx6, tf3, ev3_hold, sxo, sxc, sxp, sxq, sxr, sxs, sxl, sxm, simprocAttr, z4, e8]
      exact ⟨(i + 1, false), _, by first | exact ⟨rfl, rfl⟩ | exact ⟨rfl, trivial⟩ | rfl, HImp.nil _ _, ⟨by simp only []; omega, fun h => (by cases h), rfl⟩, by simp only []; omega⟩
end Go.Proofs.YtogicfoigeongaaGreatDoor
