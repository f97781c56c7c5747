/- A part of a proof: the symbolic walk and what it shows of single functions. -/
import Derived.Test.YtpmodggfogahhaaGreatDoorD1
import Derived.Test.YtpmodggfogahhaaGreatDoorD1
import Derived.Test.YtpmodggfogahhaaGreatDoorD1
import Derived.Test.YtpmodggfogahhaaGreatDoorD1
import Derived.Test.YtpmodggfogahhaaGreatDoorH5
import Derived.Test.YtpmodggfogahhaaGreatDoorC5
import Derived.Test.YtpmodggfogahhaaGreatDoorC5
set_option linter.all false
namespace Go.Proofs.YtpmodggfogahhaaGreatDoor
open Go.RowKit Go.SX
set_option maxRecDepth 20000
set_option maxHeartbeats 0
set_option linter.unusedSimpArgs false
set_option linter.unusedVariables false
theorem topCarried_fn (w : World) (hw : Ways w) (d : Drf) (sD sT sS vZ vC vW : Value) (hd : DfOk w d sD sT sS vZ vC vW) (x0 x1 x2 : Int) : SX.Fn Tryz.prog 4 [dfv d sD sT sS vZ vC vW, .agg #[I x0, I x1, I x2]] w (fun _ => False) fun q N => q = .bool true := by
  have dn : ∀ (g : Nat) (xs : List Value), det0 g xs = none := fun _ _ => rfl
  have hlv := fun (H : List HO) w' (hp : Hp ⟨w, fun _ => False⟩ H w') => lives_fn w' (hw.hp hp)
  have hfa := fun (H : List HO) w' (hp : Hp ⟨w, fun _ => False⟩ H w') => far2_fn w' d sD sT sS vZ vC vW (hd.keep (maps_none w) hp.ext)
  have hck := fun (hs : d.small) (H : List HO) w' (hp : Hp ⟨w, fun _ => False⟩ H w') => rcheck2_fn w' d sD sT sS vZ vC vW (hd.keep (maps_none w) hp.ext) hs
  have hst := fun (hok : d.ok) (k t lw : Nat) (hk : k < d.c.depth.length) (ht : t + 1 < d.c.tide.length) (hlw : lw ≤ 8) (z : Nat) (hz : d.zones[k]? = some (z : Int)) (cl : List Psh) (hcl : d.cur[z]? = some cl) (cur wnd : Psh) (hcur : cl[t]? = some cur) (hwnd : d.wind[t]? = some wnd) (lo hi : Int) (hpt : d.c.tide[t]? = some (lo, hi)) (H : List HO) w' (hp : Hp ⟨w, fun _ => False⟩ H w') => drift_step2_fn w' (hw.hp hp) d sD sT sS vZ vC vW (hd.keep (maps_none w) hp.ext) hok k t lw hk ht hlw z hz cl hcl cur wnd hcur hwnd lo hi hpt
  have hap := fun (hsm : d.c.small) (hok : d.c.ok) (A B : Nat) (hA : A < d.c.depth.length) (hB : B < d.c.depth.length) (H : List HO) w' (hp : Hp ⟨w, fun _ => False⟩ H w') => apart_at w' (hw.hp hp) _ d.c (hd.ch.hp hp) hsm hok A B hA hB
  have hfl := fun (hsm : d.c.small) (g k t : Int) (H : List HO) w' (hp : Hp ⟨w, fun _ => False⟩ H w') => floats1_fn w' _ d.c (hd.ch.hp hp) hsm g k t
  obtain ⟨hc, hzo, hcu, hwi⟩ := hd
  obtain ⟨sD', sT', sS', he, hsD, hsT, hsS⟩ := hc
  injection he with he
  injection he with he
  simp only [List.cons.injEq, true_and, and_true] at he
  obtain ⟨rfl, rfl, rfl⟩ := he
  obtain ⟨aT, nT, cT, rfl⟩ := hsT.shape
  have hnT := hsT.le spc_len (by omega)
  subst hnT
  obtain ⟨aZ, nZ, cZ, rfl⟩ := hzo.shape
  obtain ⟨aW, nW, cW, rfl⟩ := hwi.shape
  obtain ⟨ps, hps, hsC, hsP⟩ := hcu
  obtain ⟨aC, nC, cC, rfl⟩ := hsC.shape
  have hnZ := hzo.le i1_len (by omega)
  have hnW := hwi.le psc_len (by omega)
  have hnC := hsC.le csc_len (by omega)
  subst hnZ hnW hnC
  have hrZ := fun H => hzo.rd0 H
  have hrC := fun H => hsC.rd0 H
  have hrW := fun H => hwi.rd0 H
  have hic := fun w' => isCell_fn w' d.c.wide d.c.high x0 sD (.slice aT d.c.tide.length cT) sS
  have hit := fun w' => isTick_fn w' d.c.wide d.c.high x1 sD sS aT d.c.tide.length cT
  unfold dfv at hfa hck hst ⊢
  refine walkC [3] [] [] (det0_ok _ _) Tryz.func4 rfl Tryz.ntmps4 res4 (by kernel_rfl) no_facts ?_
  simp (config := { maxSteps := 4000000 }) only [↓sx0, ↓sx1, ↓sx2, ↓sx3, ↓sx4, ↓sx5, ↓sx6, sx0, sx1, sx2, sx3, sx4, sx5, sx6, tf4, ev3_hold, sxo, sxc, sxp, sxq, sxr, sxs, sxl, sxm, simprocAttr, dn]
  refine cut_constH [(11, 53)] (fun b : Bool => [(53, .bool b)]) (fun b H2 => b = false → d.small ∧ d.ok ∧ isCellB d.c.wide d.c.high x0 = true ∧ inB x1 0 ((d.c.tide.length : Int) - 1) = true ∧ ¬ x1 = (d.c.tide.length : Int) - 1 ∧ 0 ≤ x2 ∧ x2 ≤ 8) ?_ ?_
  · refine ⟨?_⟩
    simp (config := { maxSteps := 4000000 }) only [↓sx0, ↓sx1, ↓sx2, ↓sx3, ↓sx4, ↓sx5, ↓sx6, sx0, sx1, sx2, sx3, sx4, sx5, sx6, tf4, ev3_hold, sxo, sxc, sxp, sxq, sxr, sxs, sxl, sxm, simprocAttr, dn]
    refine CallOb.pureH (fun w' hp => hfa _ w' hp) ?_
    rintro q N ⟨b, rfl, hb⟩
    cases b with
    | true =>
      refine ⟨?_⟩
      simp (config := { maxSteps := 4000000 }) only [↓sx0, ↓sx1, ↓sx2, ↓sx3, ↓sx4, ↓sx5, ↓sx6, sx0, sx1, sx2, sx3, sx4, sx5, sx6, tf4, ev3_hold, sxo, sxc, sxp, sxq, sxr, sxs, sxl, sxm, simprocAttr, dn]
      exact ⟨true, _, rfl, HImp.refl _ _, fun h => by cases h⟩
    | false =>
    have hsm := hb rfl
    have hck := hck hsm
    refine ⟨?_⟩
    simp (config := { maxSteps := 4000000 }) only [↓sx0, ↓sx1, ↓sx2, ↓sx3, ↓sx4, ↓sx5, ↓sx6, sx0, sx1, sx2, sx3, sx4, sx5, sx6, tf4, ev3_hold, sxo, sxc, sxp, sxq, sxr, sxs, sxl, sxm, simprocAttr, dn]
    refine CallOb.pureH (fun w' hp => hck _ w' hp) ?_
    rintro q N2 ⟨e, rfl, he⟩
    by_cases hok : d.ok
    case neg =>
      have z1 : (e = 0) = False := eq_false fun h => hok (he.1 h)
      refine ⟨?_⟩
      simp (config := { maxSteps := 4000000 }) only [↓sx0, ↓sx1, ↓sx2, ↓sx3, ↓sx4, ↓sx5, ↓sx6, sx0, sx1, sx2, sx3, sx4, sx5, sx6, tf4, ev3_hold, sxo, sxc, sxp, sxq, sxr, sxs, sxl, sxm, simprocAttr, z1, dn]
      exact ⟨true, _, rfl, HImp.refl _ _, fun h => by cases h⟩
    have z1 : (e = 0) = True := eq_true (he.2 hok)
    have hT1 := hok.c.2.2.2.1
    have e1 : wr ((d.c.tide.length : Int) - 1) = (d.c.tide.length : Int) - 1 := wrap_id (by omega)
    refine ⟨?_⟩
    simp (config := { maxSteps := 4000000 }) only [↓sx0, ↓sx1, ↓sx2, ↓sx3, ↓sx4, ↓sx5, ↓sx6, sx0, sx1, sx2, sx3, sx4, sx5, sx6, tf4, ev3_hold, sxo, sxc, sxp, sxq, sxr, sxs, sxl, sxm, simprocAttr, z1, dn]
    refine CallOb.pureH (fun w' hp => hic w') ?_
    rintro q N3 rfl
    cases hC : isCellB d.c.wide d.c.high x0 with
    | false =>
      refine ⟨?_⟩
      simp (config := { maxSteps := 4000000 }) only [↓sx0, ↓sx1, ↓sx2, ↓sx3, ↓sx4, ↓sx5, ↓sx6, sx0, sx1, sx2, sx3, sx4, sx5, sx6, tf4, ev3_hold, sxo, sxc, sxp, sxq, sxr, sxs, sxl, sxm, simprocAttr, dn]
      exact ⟨true, _, rfl, HImp.refl _ _, fun h => by cases h⟩
    | true =>
    refine ⟨?_⟩
    simp (config := { maxSteps := 4000000 }) only [↓sx0, ↓sx1, ↓sx2, ↓sx3, ↓sx4, ↓sx5, ↓sx6, sx0, sx1, sx2, sx3, sx4, sx5, sx6, tf4, ev3_hold, sxo, sxc, sxp, sxq, sxr, sxs, sxl, sxm, simprocAttr, dn]
    refine CallOb.pureH (fun w' hp => hit w') ?_
    rintro q N4 rfl
    rw [e1]
    cases hTk : inB x1 0 ((d.c.tide.length : Int) - 1) with
    | false =>
      refine ⟨?_⟩
      simp (config := { maxSteps := 4000000 }) only [↓sx0, ↓sx1, ↓sx2, ↓sx3, ↓sx4, ↓sx5, ↓sx6, sx0, sx1, sx2, sx3, sx4, sx5, sx6, tf4, ev3_hold, sxo, sxc, sxp, sxq, sxr, sxs, sxl, sxm, simprocAttr, dn]
      exact ⟨true, _, rfl, HImp.refl _ _, fun h => by cases h⟩
    | true =>
    by_cases k1 : x1 = (d.c.tide.length : Int) - 1
    · have z2 : (x1 = (d.c.tide.length : Int) - 1) = True := eq_true k1
      refine ⟨?_⟩
      simp (config := { maxSteps := 4000000 }) only [↓sx0, ↓sx1, ↓sx2, ↓sx3, ↓sx4, ↓sx5, ↓sx6, sx0, sx1, sx2, sx3, sx4, sx5, sx6, tf4, ev3_hold, sxo, sxc, sxp, sxq, sxr, sxs, sxl, sxm, simprocAttr, e1, z2, dn]
      exact ⟨true, _, rfl, HImp.refl _ _, fun h => by cases h⟩
    have z2 : (x1 = (d.c.tide.length : Int) - 1) = False := eq_false k1
    by_cases k2 : x2 < 0
    · have z3 : (x2 < 0) = True := eq_true k2
      refine ⟨?_⟩
      simp (config := { maxSteps := 4000000 }) only [↓sx0, ↓sx1, ↓sx2, ↓sx3, ↓sx4, ↓sx5, ↓sx6, sx0, sx1, sx2, sx3, sx4, sx5, sx6, tf4, ev3_hold, sxo, sxc, sxp, sxq, sxr, sxs, sxl, sxm, simprocAttr, e1, z2, z3, dn]
      exact ⟨true, _, rfl, HImp.refl _ _, fun h => by cases h⟩
    have z3 : (x2 < 0) = False := eq_false k2
    by_cases k3 : x2 > 8
    · have z4 : (x2 > 8) = True := eq_true k3
      refine ⟨?_⟩
      simp (config := { maxSteps := 4000000 }) only [↓sx0, ↓sx1, ↓sx2, ↓sx3, ↓sx4, ↓sx5, ↓sx6, sx0, sx1, sx2, sx3, sx4, sx5, sx6, tf4, ev3_hold, sxo, sxc, sxp, sxq, sxr, sxs, sxl, sxm, simprocAttr, e1, z2, z3, z4, dn]
      exact ⟨true, _, rfl, HImp.refl _ _, fun h => by cases h⟩
    have z4 : (x2 > 8) = False := eq_false k3
    refine ⟨?_⟩
    simp (config := { maxSteps := 4000000 }) only [↓sx0, ↓sx1, ↓sx2, ↓sx3, ↓sx4, ↓sx5, ↓sx6, sx0, sx1, sx2, sx3, sx4, sx5, sx6, tf4, ev3_hold, sxo, sxc, sxp, sxq, sxr, sxs, sxl, sxm, simprocAttr, e1, z2, z3, z4, dn]
    exact ⟨false, _, rfl, HImp.refl _ _, fun _ => by
      refine ⟨hsm, hok, ?_⟩
      omega⟩
  rintro b H2 g2 hb
  cases b with
  | true =>
    refine ⟨?_⟩
    simp (config := { maxSteps := 4000000 }) only [↓sx0, ↓sx1, ↓sx2, ↓sx3, ↓sx4, ↓sx5, ↓sx6, sx0, sx1, sx2, sx3, sx4, sx5, sx6, tf4, ev3_hold, sxo, sxc, sxp, sxq, sxr, sxs, sxl, sxm, simprocAttr, dn]
    refine CallOb.pureH (fun w' hp => hlv _ w' hp) ?_
    rintro q NN rfl
    refine ⟨?_⟩
    simp (config := { maxSteps := 4000000 }) only [↓sx0, ↓sx1, ↓sx2, ↓sx3, ↓sx4, ↓sx5, ↓sx6, sx0, sx1, sx2, sx3, sx4, sx5, sx6, tf4, ev3_hold, sxo, sxc, sxp, sxq, sxr, sxs, sxl, sxm, simprocAttr]
  | false =>
  obtain ⟨hsm, hok, hC, hTk, k1, k2, k3⟩ := hb rfl
  have hT1 := hok.c.2.2.2.1
  rw [isCell_iff hok.c] at hC
  have hnc : notCell d.c x0 = false := by simpa using hC
  obtain ⟨k, hx0, hk⟩ := cell_of hnc
  rw [inB_iff] at hTk
  obtain ⟨t, hx1⟩ : ∃ t : Nat, x1 = t := ⟨x1.toNat, by omega⟩
  obtain ⟨lw, hx2⟩ : ∃ lw : Nat, x2 = lw := ⟨x2.toNat, by omega⟩
  have ht1 : t + 1 < d.c.tide.length := by omega
  have ht : t < d.c.tide.length := by omega
  obtain ⟨zi, hzi⟩ : ∃ z, d.zones[k]? = some z := ⟨_, List.getElem?_eq_getElem (by rw [hok.zl]; exact hk)⟩
  have hzr := hok.zo _ (List.mem_of_getElem? hzi)
  obtain ⟨z, rfl⟩ : ∃ z : Nat, zi = z := ⟨zi.toNat, by omega⟩
  obtain ⟨p, hp⟩ : ∃ p, ps[z]? = some p := ⟨_, List.getElem?_eq_getElem (by
    have : ps.length = d.cur.length := by rw [← hps, List.length_map]
    omega)⟩
  have hpm := List.mem_of_getElem? hp
  obtain ⟨cl, pa, pn, pc⟩ := p
  have hcl : d.cur[z]? = some cl := by rw [← hps, List.getElem?_map, hp]; rfl
  have hsl : Sl w (.slice pa pn pc) 3 (cat psc cl) := hsP _ hpm
  have hco := hok.cu _ (List.mem_of_getElem? hcl)
  have hwo := hok.wi
  obtain ⟨cur, hcur⟩ : ∃ x, cl[t]? = some x := ⟨_, List.getElem?_eq_getElem (by have := hco.1; omega)⟩
  obtain ⟨wnd, hwnd⟩ : ∃ x, d.wind[t]? = some x := ⟨_, List.getElem?_eq_getElem (by have := hwo.1; omega)⟩
  have hcuok := hco.2 _ (List.mem_of_getElem? hcur)
  have hwnok := hwo.2 _ (List.mem_of_getElem? hwnd)
  obtain ⟨lh, hpt⟩ : ∃ x, d.c.tide[t]? = some x := ⟨_, List.getElem?_eq_getElem ht⟩
  obtain ⟨lo, hi⟩ := lh
  have hlh := hok.c.2.2.2.2.2.2.1 _ (List.mem_of_getElem? hpt)
  simp only [] at hlh
  have htlo : d.c.tlo t = lo := by
    unfold Cht.tlo
    rw [List.getD_eq_getElem?_getD, hpt]
    rfl
  have hthi : d.c.thi t = hi := by
    unfold Cht.thi
    rw [List.getD_eq_getElem?_getD, hpt]
    rfl
  have hst := hst hok k t lw hk ht1 (by omega) z hzi cl hcl cur wnd hcur hwnd lo hi hpt
  have hin := fun x => stpA_in (d := d) (cur := cur) (wnd := wnd) (t := t) (k := k) (lw := lw) (lo := lo) (hi := hi) (x := x) hok.c hk
  have hlen := stpN_len d cur wnd hcuok hwnok t k lw lo (hi - lo + 1).toNat
  have hlen2 : (stpA d cur wnd t k lw lo hi).length ≤ 1000000 := by
    unfold stpA
    refine Nat.le_trans (compact_le _) ?_
    rw [srt_len]
    omega
  rw [← hx0, ← hx1, ← hx2] at hst
  have hfa := fun y => stpA_far (d := d) (cur := cur) (wnd := wnd) (t := t) (k := k) (lw := lw) (lo := lo) (hi := hi) (y := y) hok.c hcuok hwnok hk
  have hap := fun (B : Nat) (hB : B < d.c.depth.length) => hap hsm.1 hok.c k B hk hB
  simp only [← hx0] at hap
  have hcl1 := hco.1
  have hwl1 := hwo.1
  have hnp := hsl.le psc_len (by omega)
  obtain ⟨R, hR⟩ : ∃ R, stpA d cur wnd t k lw lo hi = R := ⟨_, rfl⟩
  rw [hR] at hst hlen2
  simp only [hR] at hin hfa
  have q1 := hcuok.s
  have q2 := hwnok.s
  have hm : 0 ≤ wnd.high * x2 ∧ wnd.high * x2 ≤ 3 * 8 := by
    constructor
    · exact Int.mul_nonneg (by omega) (by omega)
    · exact Int.mul_le_mul (by omega) (by omega) (by omega) (by omega)
  have f1 : wr (wnd.high * x2) = wnd.high * x2 := wrap_id (by omega)
  have f2 : (wnd.high * x2).tdiv 4 = wnd.high * x2 / 4 := Int.tdiv_eq_ediv_of_nonneg (by omega)
  have f3 : wr (wnd.high * x2 / 4) = wnd.high * x2 / 4 := wrap_id (by omega)
  rw [← hx2] at hfa
  obtain ⟨F, hF⟩ : ∃ F, cur.high + wnd.high * x2 / 4 = F := ⟨_, rfl⟩
  rw [hF] at hfa
  have f4 : wr (cur.high + wnd.high * x2 / 4) = F := (wrap_id (by omega)).trans hF
  have z0 : ((0 : Int) = 0) = True := eq_true rfl
  refine ⟨?_⟩
  simp (config := { maxSteps := 4000000 }) only [↓sx0, ↓sx1, ↓sx2, ↓sx3, ↓sx4, ↓sx5, ↓sx6, sx0, sx1, sx2, sx3, sx4, sx5, sx6, tf4, ev3_hold, sxo, sxc, sxp, sxq, sxr, sxs, sxl, sxm, simprocAttr, dn]
  refine CallOb.pureH (fun w' hp => hst _ w' hp) ?_
  rintro q N ⟨v, rfl, hG⟩
  obtain ⟨ar, cr, rfl⟩ := hG.shape
  have hzl := hok.zl
  have hzk : d.zones[x0.toNat]? = some (z : Int) := by rw [hx0]; exact hzi
  have hcur1 : cl[x1.toNat]? = some cur := by rw [hx1]; exact hcur
  have hwnd1 : d.wind[x1.toNat]? = some wnd := by rw [hx1]; exact hwnd
  refine ⟨?_⟩
  simp (config := { maxSteps := 4000000 }) only [↓sx0, ↓sx1, ↓sx2, ↓sx3, ↓sx4, ↓sx5, ↓sx6, sx0, sx1, sx2, sx3, sx4, sx5, sx6, tf4, ev3_hold, sxo, sxc, sxp, sxq, sxr, sxs, sxl, sxm, simprocAttr, z0, dn]
  refine ⟨by omega, by omega, (at_1 (hrZ _) i1_len hzk rfl fun ad1 => ?_).2.2⟩
  simp (config := { maxSteps := 4000000 }) only [↓sx0, ↓sx1, ↓sx2, ↓sx3, ↓sx4, ↓sx5, ↓sx6, sx0, sx1, sx2, sx3, sx4, sx5, sx6, tf4, ev3_hold, sxo, sxc, sxp, sxq, sxr, sxs, sxl, sxm, simprocAttr]
  refine at_1 (hrC _) csc_len hp rfl fun ad2 => ?_
  unfold csv
  simp (config := { maxSteps := 4000000 }) only [↓sx0, ↓sx1, ↓sx2, ↓sx3, ↓sx4, ↓sx5, ↓sx6, sx0, sx1, sx2, sx3, sx4, sx5, sx6, tf4, ev3_hold, sxo, sxc, sxp, sxq, sxr, sxs, sxl, sxm, simprocAttr]
  refine ⟨by omega, by omega, (at_f2 (hsl.rd0 _) psc_len hcur1 (o1 := 1) (o2 := 1) (x := I cur.high) rfl fun ad3 => ?_).2.2⟩
  simp (config := { maxSteps := 4000000 }) only [↓sx0, ↓sx1, ↓sx2, ↓sx3, ↓sx4, ↓sx5, ↓sx6, sx0, sx1, sx2, sx3, sx4, sx5, sx6, tf4, ev3_hold, sxo, sxc, sxp, sxq, sxr, sxs, sxl, sxm, simprocAttr]
  refine ⟨by omega, by omega, (at_f2 (hrW _) psc_len hwnd1 (o1 := 1) (o2 := 1) (x := I wnd.high) rfl fun ad4 => ?_).2.2⟩
  simp (config := { maxSteps := 4000000 }) only [↓sx0, ↓sx1, ↓sx2, ↓sx3, ↓sx4, ↓sx5, ↓sx6, sx0, sx1, sx2, sx3, sx4, sx5, sx6, tf4, ev3_hold, sxo, sxc, sxp, sxq, sxr, sxs, sxl, sxm, simprocAttr, f1, f2, f3, f4]
  refine loop_constH _ (HImp.refl _ _) [(4, 4), (8, 10), (97, 126)] (fun i : Nat => [(8, I i)]) (fun i H1 => i ≤ R.length ∧ ∀ h ∈ N, h ∈ H1) (fun i => R.length - i) 0 ?_ ⟨Nat.zero_le _, fun h hh => by simp [hh]⟩ ?_
  · simp (config := { maxSteps := 4000000 }) only [↓sx0, ↓sx1, ↓sx2, ↓sx3, ↓sx4, ↓sx5, ↓sx6, sx0, sx1, sx2, sx3, sx4, sx5, sx6, tf4, ev3_hold, sxo, sxc, sxp, sxq, sxr, sxs, sxl, sxm, simprocAttr]
    try simp
  rintro i H1 g1 ⟨hib, hN⟩
  by_cases hin1 : i = R.length
  · have e7 : ((i : Int) < (R.length : Int)) = False := eq_false (by omega)
    refine ⟨?_⟩
    simp (config := { maxSteps := 4000000 }) only [↓sx0, ↓sx1, ↓sx2, ↓sx3, ↓sx4, ↓sx5, ↓sx6, sx0, sx1, sx2, sx3, sx4, sx5, sx6, tf4, ev3_hold, sxo, sxc, sxp, sxq, sxr, sxs, sxl, sxm, simprocAttr, e7, dn]
    refine CallOb.pureH (fun w' hp => hlv _ w' hp) ?_
    rintro q NN rfl
    refine ⟨?_⟩
    simp (config := { maxSteps := 4000000 }) only [↓sx0, ↓sx1, ↓sx2, ↓sx3, ↓sx4, ↓sx5, ↓sx6, sx0, sx1, sx2, sx3, sx4, sx5, sx6, tf4, ev3_hold, sxo, sxc, sxp, sxq, sxr, sxs, sxl, sxm, simprocAttr]
  have e7 : ((i : Int) < (R.length : Int)) = True := eq_true (by omega)
  have e8 : wr (i + 1) = ((i + 1 : Nat) : Int) := (wrap_id (by omega)).trans (by omega)
  obtain ⟨y, hy⟩ : ∃ y, R[i]? = some y := ⟨_, List.getElem?_eq_getElem (by omega)⟩
  have hym := List.mem_of_getElem? hy
  rcases hin y hym with hy1 | ⟨yy, hyy, hyn⟩
  · have g0 : (y = -1) = True := eq_true hy1
    refine ⟨?_⟩
    simp (config := { maxSteps := 4000000 }) only [↓sx0, ↓sx1, ↓sx2, ↓sx3, ↓sx4, ↓sx5, ↓sx6, sx0, sx1, sx2, sx3, sx4, sx5, sx6, tf4, ev3_hold, sxo, sxc, sxp, sxq, sxr, sxs, sxl, sxm, simprocAttr, e7]
    refine amid (at_1 (hG.rdv i1_len (fun h hh => by simp [hN h hh])) i1_len hy rfl fun ad => ?_)
    simp (config := { maxSteps := 4000000 }) only [↓sx0, ↓sx1, ↓sx2, ↓sx3, ↓sx4, ↓sx5, ↓sx6, sx0, sx1, sx2, sx3, sx4, sx5, sx6, tf4, ev3_hold, sxo, sxc, sxp, sxq, sxr, sxs, sxl, sxm, simprocAttr, g0, e8]
    exact ⟨i + 1, _, rfl, HImp.refl _ _, ⟨by omega, fun h hh => by simp [hN h hh]⟩, by omega⟩
  have g0 : (y = -1) = False := eq_false (by omega)
  have hap := hap yy hyn
  rw [← hyy] at hap
  have hdy := hfa yy (by rw [← hyy]; exact hym)
  have g1 : (((dst d.c.W d.c.H k yy : Nat) : Int) > F) = False := eq_false (by omega)
  refine ⟨?_⟩
  simp (config := { maxSteps := 4000000 }) only [↓sx0, ↓sx1, ↓sx2, ↓sx3, ↓sx4, ↓sx5, ↓sx6, sx0, sx1, sx2, sx3, sx4, sx5, sx6, tf4, ev3_hold, sxo, sxc, sxp, sxq, sxr, sxs, sxl, sxm, simprocAttr, e7]
  refine amid (at_1 (hG.rdv i1_len (fun h hh => by simp [hN h hh])) i1_len hy rfl fun ad => ?_)
  simp (config := { maxSteps := 4000000 }) only [↓sx0, ↓sx1, ↓sx2, ↓sx3, ↓sx4, ↓sx5, ↓sx6, sx0, sx1, sx2, sx3, sx4, sx5, sx6, tf4, ev3_hold, sxo, sxc, sxp, sxq, sxr, sxs, sxl, sxm, simprocAttr, g0]
  refine at_1 (hG.rdv i1_len (fun h hh => by simp [hN h hh])) i1_len hy rfl fun ad => ?_
  simp (config := { maxSteps := 4000000 }) only [↓sx0, ↓sx1, ↓sx2, ↓sx3, ↓sx4, ↓sx5, ↓sx6, sx0, sx1, sx2, sx3, sx4, sx5, sx6, tf4, ev3_hold, sxo, sxc, sxp, sxq, sxr, sxs, sxl, sxm, simprocAttr, dn]
  refine CallOb.pureH (fun w' hp => hap _ w' hp) ?_
  rintro q N5 rfl
  refine ⟨?_⟩
  simp (config := { maxSteps := 4000000 }) only [↓sx0, ↓sx1, ↓sx2, ↓sx3, ↓sx4, ↓sx5, ↓sx6, sx0, sx1, sx2, sx3, sx4, sx5, sx6, tf4, ev3_hold, sxo, sxc, sxp, sxq, sxr, sxs, sxl, sxm, simprocAttr, z0, g1, e8]
  exact ⟨i + 1, _, rfl, HImp.refl _ _, ⟨by omega, fun h hh => by simp [hN h hh]⟩, by omega⟩
end Go.Proofs.YtpmodggfogahhaaGreatDoor
