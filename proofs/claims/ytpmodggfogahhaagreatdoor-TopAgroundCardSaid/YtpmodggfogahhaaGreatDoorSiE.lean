/- A part of a proof: the symbolic walk and what it shows of single functions. -/
import Derived.Test.YtpmodggfogahhaaGreatDoorD1
import Derived.Test.YtpmodggfogahhaaGreatDoorD1
import Derived.Test.YtpmodggfogahhaaGreatDoorD1
import Derived.Test.YtpmodggfogahhaaGreatDoorD1
import Derived.Test.YtpmodggfogahhaaGreatDoorH5
import Derived.Test.YtpmodggfogahhaaGreatDoorC5
import Derived.Test.YtpmodggfogahhaaGreatDoorC5
set_option linter.all false
namespace Go.Proofs.YtpmodggfogahhaaGreatDoor
open Go.RowKit Go.SX
set_option maxRecDepth 20000
set_option maxHeartbeats 0
set_option linter.unusedSimpArgs false
set_option linter.unusedVariables false
theorem topAground_fn (w : World) (hw : Ways w) (d : Drf) (sD sT sS vZ vC vW : Value) (hd : DfOk w d sD sT sS vZ vC vW) (x0 x1 x2 : Int) : SX.Fn Tryz.prog 3 [dfv d sD sT sS vZ vC vW, .agg #[I x0, I x1, I x2]] w (fun _ => False) fun q N => q = .bool true := by
  have dn : ∀ (g : Nat) (xs : List Value), det0 g xs = none := fun _ _ => rfl
  have hlv := fun (H : List HO) w' (hp : Hp ⟨w, fun _ => False⟩ H w') => lives_fn w' (hw.hp hp)
  have hfa := fun (H : List HO) w' (hp : Hp ⟨w, fun _ => False⟩ H w') => far2_fn w' d sD sT sS vZ vC vW (hd.keep (maps_none w) hp.ext)
  have hck := fun (hs : d.small) (H : List HO) w' (hp : Hp ⟨w, fun _ => False⟩ H w') => rcheck2_fn w' d sD sT sS vZ vC vW (hd.keep (maps_none w) hp.ext) hs
  have hst := fun (hok : d.ok) (k t lw : Nat) (hk : k < d.c.depth.length) (ht : t + 1 < d.c.tide.length) (hlw : lw ≤ 8) (z : Nat) (hz : d.zones[k]? = some (z : Int)) (cl : List Psh) (hcl : d.cur[z]? = some cl) (cur wnd : Psh) (hcur : cl[t]? = some cur) (hwnd : d.wind[t]? = some wnd) (lo hi : Int) (hpt : d.c.tide[t]? = some (lo, hi)) (H : List HO) w' (hp : Hp ⟨w, fun _ => False⟩ H w') => drift_step2_fn w' (hw.hp hp) d sD sT sS vZ vC vW (hd.keep (maps_none w) hp.ext) hok k t lw hk ht hlw z hz cl hcl cur wnd hcur hwnd lo hi hpt
  have hap := fun (hsm : d.c.small) (hok : d.c.ok) (A B : Nat) (hA : A < d.c.depth.length) (hB : B < d.c.depth.length) (H : List HO) w' (hp : Hp ⟨w, fun _ => False⟩ H w') => apart_at w' (hw.hp hp) _ d.c (hd.ch.hp hp) hsm hok A B hA hB
  have hfl := fun (hsm : d.c.small) (g k t : Int) (H : List HO) w' (hp : Hp ⟨w, fun _ => False⟩ H w') => floats1_fn w' _ d.c (hd.ch.hp hp) hsm g k t
  obtain ⟨hc, hzo, hcu, hwi⟩ := hd
  obtain ⟨sD', sT', sS', he, hsD, hsT, hsS⟩ := hc
  injection he with he
  injection he with he
  simp only [List.cons.injEq, true_and, and_true] at he
  obtain ⟨rfl, rfl, rfl⟩ := he
  obtain ⟨aT, nT, cT, rfl⟩ := hsT.shape
  have hnT := hsT.le spc_len (by omega)
  subst hnT
  obtain ⟨aZ, nZ, cZ, rfl⟩ := hzo.shape
  obtain ⟨aW, nW, cW, rfl⟩ := hwi.shape
  obtain ⟨ps, hps, hsC, hsP⟩ := hcu
  obtain ⟨aC, nC, cC, rfl⟩ := hsC.shape
  have hnZ := hzo.le i1_len (by omega)
  have hnW := hwi.le psc_len (by omega)
  have hnC := hsC.le csc_len (by omega)
  subst hnZ hnW hnC
  have hrZ := fun H => hzo.rd0 H
  have hrC := fun H => hsC.rd0 H
  have hrW := fun H => hwi.rd0 H
  have hic := fun w' => isCell_fn w' d.c.wide d.c.high x0 sD (.slice aT d.c.tide.length cT) sS
  have hit := fun w' => isTick_fn w' d.c.wide d.c.high x1 sD sS aT d.c.tide.length cT
  unfold dfv at hfa hck hst ⊢
  refine walkC [3, 11] [] [] (det0_ok _ _) Tryz.func3 rfl Tryz.ntmps3 res3 (by kernel_rfl) no_facts ?_
  simp (config := { maxSteps := 4000000 }) only [↓sx0, ↓sx1, ↓sx2, ↓sx3, ↓sx4, ↓sx5, ↓sx6, sx0, sx1, sx2, sx3, sx4, sx5, sx6, tf3, ev3_hold, sxo, sxc, sxp, sxq, sxr, sxs, sxl, sxm, simprocAttr, dn]
  refine cut_constH [(14, 56)] (fun b : Bool => [(56, .bool b)]) (fun b H2 => b = false → d.small ∧ d.ok ∧ isCellB d.c.wide d.c.high x0 = true ∧ inB x1 0 ((d.c.tide.length : Int) - 1) = true ∧ ¬ x1 = (d.c.tide.length : Int) - 1 ∧ 0 ≤ x2 ∧ x2 ≤ 8) ?_ ?_
  · refine ⟨?_⟩
    simp (config := { maxSteps := 4000000 }) only [↓sx0, ↓sx1, ↓sx2, ↓sx3, ↓sx4, ↓sx5, ↓sx6, sx0, sx1, sx2, sx3, sx4, sx5, sx6, tf3, ev3_hold, sxo, sxc, sxp, sxq, sxr, sxs, sxl, sxm, simprocAttr, dn]
    refine CallOb.pureH (fun w' hp => hfa _ w' hp) ?_
    rintro q N ⟨b, rfl, hb⟩
    cases b with
    | true =>
      refine ⟨?_⟩
      simp (config := { maxSteps := 4000000 }) only [↓sx0, ↓sx1, ↓sx2, ↓sx3, ↓sx4, ↓sx5, ↓sx6, sx0, sx1, sx2, sx3, sx4, sx5, sx6, tf3, ev3_hold, sxo, sxc, sxp, sxq, sxr, sxs, sxl, sxm, simprocAttr, dn]
      exact ⟨true, _, rfl, HImp.refl _ _, fun h => by cases h⟩
    | false =>
    have hsm := hb rfl
    have hck := hck hsm
    refine ⟨?_⟩
    simp (config := { maxSteps := 4000000 }) only [↓sx0, ↓sx1, ↓sx2, ↓sx3, ↓sx4, ↓sx5, ↓sx6, sx0, sx1, sx2, sx3, sx4, sx5, sx6, tf3, ev3_hold, sxo, sxc, sxp, sxq, sxr, sxs, sxl, sxm, simprocAttr, dn]
    refine CallOb.pureH (fun w' hp => hck _ w' hp) ?_
    rintro q N2 ⟨e, rfl, he⟩
    by_cases hok : d.ok
    case neg =>
      have z1 : (e = 0) = False := eq_false fun h => hok (he.1 h)
      refine ⟨?_⟩
      simp (config := { maxSteps := 4000000 }) only [↓sx0, ↓sx1, ↓sx2, ↓sx3, ↓sx4, ↓sx5, ↓sx6, sx0, sx1, sx2, sx3, sx4, sx5, sx6, tf3, ev3_hold, sxo, sxc, sxp, sxq, sxr, sxs, sxl, sxm, simprocAttr, z1, dn]
      exact ⟨true, _, rfl, HImp.refl _ _, fun h => by cases h⟩
    have z1 : (e = 0) = True := eq_true (he.2 hok)
    have hT1 := hok.c.2.2.2.1
    have e1 : wr ((d.c.tide.length : Int) - 1) = (d.c.tide.length : Int) - 1 := wrap_id (by omega)
    refine ⟨?_⟩
    simp (config := { maxSteps := 4000000 }) only [↓sx0, ↓sx1, ↓sx2, ↓sx3, ↓sx4, ↓sx5, ↓sx6, sx0, sx1, sx2, sx3, sx4, sx5, sx6, tf3, ev3_hold, sxo, sxc, sxp, sxq, sxr, sxs, sxl, sxm, simprocAttr, z1, dn]
    refine CallOb.pureH (fun w' hp => hic w') ?_
    rintro q N3 rfl
    cases hC : isCellB d.c.wide d.c.high x0 with
    | false =>
      refine ⟨?_⟩
      simp (config := { maxSteps := 4000000 }) only [↓sx0, ↓sx1, ↓sx2, ↓sx3, ↓sx4, ↓sx5, ↓sx6, sx0, sx1, sx2, sx3, sx4, sx5, sx6, tf3, ev3_hold, sxo, sxc, sxp, sxq, sxr, sxs, sxl, sxm, simprocAttr, dn]
      exact ⟨true, _, rfl, HImp.refl _ _, fun h => by cases h⟩
    | true =>
    refine ⟨?_⟩
    simp (config := { maxSteps := 4000000 }) only [↓sx0, ↓sx1, ↓sx2, ↓sx3, ↓sx4, ↓sx5, ↓sx6, sx0, sx1, sx2, sx3, sx4, sx5, sx6, tf3, ev3_hold, sxo, sxc, sxp, sxq, sxr, sxs, sxl, sxm, simprocAttr, dn]
    refine CallOb.pureH (fun w' hp => hit w') ?_
    rintro q N4 rfl
    rw [e1]
    cases hTk : inB x1 0 ((d.c.tide.length : Int) - 1) with
    | false =>
      refine ⟨?_⟩
      simp (config := { maxSteps := 4000000 }) only [↓sx0, ↓sx1, ↓sx2, ↓sx3, ↓sx4, ↓sx5, ↓sx6, sx0, sx1, sx2, sx3, sx4, sx5, sx6, tf3, ev3_hold, sxo, sxc, sxp, sxq, sxr, sxs, sxl, sxm, simprocAttr, dn]
      exact ⟨true, _, rfl, HImp.refl _ _, fun h => by cases h⟩
    | true =>
    by_cases k1 : x1 = (d.c.tide.length : Int) - 1
    · have z2 : (x1 = (d.c.tide.length : Int) - 1) = True := eq_true k1
      refine ⟨?_⟩
      simp (config := { maxSteps := 4000000 }) only [↓sx0, ↓sx1, ↓sx2, ↓sx3, ↓sx4, ↓sx5, ↓sx6, sx0, sx1, sx2, sx3, sx4, sx5, sx6, tf3, ev3_hold, sxo, sxc, sxp, sxq, sxr, sxs, sxl, sxm, simprocAttr, e1, z2, dn]
      exact ⟨true, _, rfl, HImp.refl _ _, fun h => by cases h⟩
    have z2 : (x1 = (d.c.tide.length : Int) - 1) = False := eq_false k1
    by_cases k2 : x2 < 0
    · have z3 : (x2 < 0) = True := eq_true k2
      refine ⟨?_⟩
      simp (config := { maxSteps := 4000000 }) only [↓sx0, ↓sx1, ↓sx2, ↓sx3, ↓sx4, ↓sx5, ↓sx6, sx0, sx1, sx2, sx3, sx4, sx5, sx6, tf3, ev3_hold, sxo, sxc, sxp, sxq, sxr, sxs, sxl, sxm, simprocAttr, e1, z2, z3, dn]
      exact ⟨true, _, rfl, HImp.refl _ _, fun h => by cases h⟩
    have z3 : (x2 < 0) = False := eq_false k2
    by_cases k3 : x2 > 8
    · have z4 : (x2 > 8) = True := eq_true k3
      refine ⟨?_⟩
      simp (config := { maxSteps := 4000000 }) only [↓sx0, ↓sx1, ↓sx2, ↓sx3, ↓sx4, ↓sx5, ↓sx6, sx0, sx1, sx2, sx3, sx4, sx5, sx6, tf3, ev3_hold, sxo, sxc, sxp, sxq, sxr, sxs, sxl, sxm, simprocAttr, e1, z2, z3, z4, dn]
      exact ⟨true, _, rfl, HImp.refl _ _, fun h => by cases h⟩
    have z4 : (x2 > 8) = False := eq_false k3
    refine ⟨?_⟩
    simp (config := { maxSteps := 4000000 }) only [↓sx0, ↓sx1, ↓sx2, ↓sx3, ↓sx4, ↓sx5, ↓sx6, sx0, sx1, sx2, sx3, sx4, sx5, sx6, tf3, ev3_hold, sxo, sxc, sxp, sxq, sxr, sxs, sxl, sxm, simprocAttr, e1, z2, z3, z4, dn]
    exact ⟨false, _, rfl, HImp.refl _ _, fun _ => by
      refine ⟨hsm, hok, ?_⟩
      omega⟩
  rintro b H2 g2 hb
  cases b with
  | true =>
    refine ⟨?_⟩
    simp (config := { maxSteps := 4000000 }) only [↓sx0, ↓sx1, ↓sx2, ↓sx3, ↓sx4, ↓sx5, ↓sx6, sx0, sx1, sx2, sx3, sx4, sx5, sx6, tf3, ev3_hold, sxo, sxc, sxp, sxq, sxr, sxs, sxl, sxm, simprocAttr, dn]
    refine CallOb.pureH (fun w' hp => hlv _ w' hp) ?_
    rintro q NN rfl
    refine ⟨?_⟩
    simp (config := { maxSteps := 4000000 }) only [↓sx0, ↓sx1, ↓sx2, ↓sx3, ↓sx4, ↓sx5, ↓sx6, sx0, sx1, sx2, sx3, sx4, sx5, sx6, tf3, ev3_hold, sxo, sxc, sxp, sxq, sxr, sxs, sxl, sxm, simprocAttr]
  | false =>
  obtain ⟨hsm, hok, hC, hTk, k1, k2, k3⟩ := hb rfl
  have hT1 := hok.c.2.2.2.1
  rw [isCell_iff hok.c] at hC
  have hnc : notCell d.c x0 = false := by simpa using hC
  obtain ⟨k, hx0, hk⟩ := cell_of hnc
  rw [inB_iff] at hTk
  obtain ⟨t, hx1⟩ : ∃ t : Nat, x1 = t := ⟨x1.toNat, by omega⟩
  obtain ⟨lw, hx2⟩ : ∃ lw : Nat, x2 = lw := ⟨x2.toNat, by omega⟩
  have ht1 : t + 1 < d.c.tide.length := by omega
  have ht : t < d.c.tide.length := by omega
  obtain ⟨zi, hzi⟩ : ∃ z, d.zones[k]? = some z := ⟨_, List.getElem?_eq_getElem (by rw [hok.zl]; exact hk)⟩
  have hzr := hok.zo _ (List.mem_of_getElem? hzi)
  obtain ⟨z, rfl⟩ : ∃ z : Nat, zi = z := ⟨zi.toNat, by omega⟩
  obtain ⟨p, hp⟩ : ∃ p, ps[z]? = some p := ⟨_, List.getElem?_eq_getElem (by
    have : ps.length = d.cur.length := by rw [← hps, List.length_map]
    omega)⟩
  have hpm := List.mem_of_getElem? hp
  obtain ⟨cl, pa, pn, pc⟩ := p
  have hcl : d.cur[z]? = some cl := by rw [← hps, List.getElem?_map, hp]; rfl
  have hsl : Sl w (.slice pa pn pc) 3 (cat psc cl) := hsP _ hpm
  have hco := hok.cu _ (List.mem_of_getElem? hcl)
  have hwo := hok.wi
  obtain ⟨cur, hcur⟩ : ∃ x, cl[t]? = some x := ⟨_, List.getElem?_eq_getElem (by have := hco.1; omega)⟩
  obtain ⟨wnd, hwnd⟩ : ∃ x, d.wind[t]? = some x := ⟨_, List.getElem?_eq_getElem (by have := hwo.1; omega)⟩
  have hcuok := hco.2 _ (List.mem_of_getElem? hcur)
  have hwnok := hwo.2 _ (List.mem_of_getElem? hwnd)
  obtain ⟨lh, hpt⟩ : ∃ x, d.c.tide[t]? = some x := ⟨_, List.getElem?_eq_getElem ht⟩
  obtain ⟨lo, hi⟩ := lh
  have hlh := hok.c.2.2.2.2.2.2.1 _ (List.mem_of_getElem? hpt)
  simp only [] at hlh
  have htlo : d.c.tlo t = lo := by
    unfold Cht.tlo
    rw [List.getD_eq_getElem?_getD, hpt]
    rfl
  have hthi : d.c.thi t = hi := by
    unfold Cht.thi
    rw [List.getD_eq_getElem?_getD, hpt]
    rfl
  have hst := hst hok k t lw hk ht1 (by omega) z hzi cl hcl cur wnd hcur hwnd lo hi hpt
  have hin := fun x => stpA_in (d := d) (cur := cur) (wnd := wnd) (t := t) (k := k) (lw := lw) (lo := lo) (hi := hi) (x := x) hok.c hk
  have hlen := stpN_len d cur wnd hcuok hwnok t k lw lo (hi - lo + 1).toNat
  have hlen2 : (stpA d cur wnd t k lw lo hi).length ≤ 1000000 := by
    unfold stpA
    refine Nat.le_trans (compact_le _) ?_
    rw [srt_len]
    omega
  rw [← hx0, ← hx1, ← hx2] at hst
  have hwet := fun y => stpA_wet (d := d) (cur := cur) (wnd := wnd) (t := t) (k := k) (lw := lw) (lo := lo) (hi := hi) (y := y) hok.c hk
  have hsty := stpA_stays (d := d) (cur := cur) (wnd := wnd) (t := t) (k := k) (lw := lw) (lo := lo) (hi := hi) (by omega)
  have hne : stpA d cur wnd t k lw lo hi ≠ [] := stpA_ne (by omega) hcuok hwnok
  have hfl := hfl hsm.1 1
  have hfv := fun (y : Nat) (hy : y < d.c.depth.length) => floatsV_at hok.c (g := 1) hy ht (by decide)
  obtain ⟨R, hR⟩ : ∃ R, stpA d cur wnd t k lw lo hi = R := ⟨_, rfl⟩
  rw [hR] at hst hlen2 hsty hne
  simp only [hR] at hin hwet
  have hfx := hfv k hk
  rw [← hx0, ← hx1, htlo, hthi] at hfx
  have hf0 := hfl x0 x1
  rw [hfx] at hf0
  obtain ⟨B, hB⟩ : ∃ B, decide (d.c.over k t lo ≥ 1) = B := ⟨_, rfl⟩
  simp only [hB] at hf0
  have z0 : ((0 : Int) = 0) = True := eq_true rfl
  have z5 : ((R.length : Int) = 0) = False := eq_false fun h => hne (List.eq_nil_of_length_eq_zero (by omega))
  refine ⟨?_⟩
  simp (config := { maxSteps := 4000000 }) only [↓sx0, ↓sx1, ↓sx2, ↓sx3, ↓sx4, ↓sx5, ↓sx6, sx0, sx1, sx2, sx3, sx4, sx5, sx6, tf3, ev3_hold, sxo, sxc, sxp, sxq, sxr, sxs, sxl, sxm, simprocAttr, dn]
  refine CallOb.pureH (fun w' hp => hst _ w' hp) ?_
  rintro q N ⟨v, rfl, hG⟩
  obtain ⟨ar, cr, rfl⟩ := hG.shape
  refine ⟨?_⟩
  simp (config := { maxSteps := 4000000 }) only [↓sx0, ↓sx1, ↓sx2, ↓sx3, ↓sx4, ↓sx5, ↓sx6, sx0, sx1, sx2, sx3, sx4, sx5, sx6, tf3, ev3_hold, sxo, sxc, sxp, sxq, sxr, sxs, sxl, sxm, simprocAttr, dn]
  refine CallOb.pureH (fun w' hp => hf0 _ w' hp) ?_
  rintro q N6 rfl
  refine ⟨?_⟩
  simp (config := { maxSteps := 4000000 }) only [↓sx0, ↓sx1, ↓sx2, ↓sx3, ↓sx4, ↓sx5, ↓sx6, sx0, sx1, sx2, sx3, sx4, sx5, sx6, tf3, ev3_hold, sxo, sxc, sxp, sxq, sxr, sxs, sxl, sxm, simprocAttr]
  refine cut_constH [(80, 101)] (fun _ : Unit => [(101, .bool false)]) (fun _ H3 => ∀ h ∈ N, h ∈ H3) ?_ ?_
  · cases B with
    | true =>
      refine ⟨?_⟩
      simp (config := { maxSteps := 4000000 }) only [↓sx0, ↓sx1, ↓sx2, ↓sx3, ↓sx4, ↓sx5, ↓sx6, sx0, sx1, sx2, sx3, sx4, sx5, sx6, tf3, ev3_hold, sxo, sxc, sxp, sxq, sxr, sxs, sxl, sxm, simprocAttr, z0, z5, dn]
      exact ⟨(), _, HImp.refl _ _, fun h hh => by simp [hh]⟩
    | false =>
      have hov : ¬ d.c.over k t lo ≥ 1 := of_decide_eq_false hB
      have hmem := hsty hov
      rw [← hx0] at hmem
      have z7 : (x0 ∈ R) = True := eq_true hmem
      refine ⟨?_⟩
      simp (config := { maxSteps := 4000000 }) only [↓sx0, ↓sx1, ↓sx2, ↓sx3, ↓sx4, ↓sx5, ↓sx6, sx0, sx1, sx2, sx3, sx4, sx5, sx6, tf3, ev3_hold, sxo, sxc, sxp, sxq, sxr, sxs, sxl, sxm, simprocAttr, z0, z5, dn]
      refine CallOb.pureH (fun w' hp => contains_fn w' _ R x0 (hG.hp (fun h hh => by simp [hh]) hp) (by omega)) ?_
      rintro q N7 rfl
      refine ⟨?_⟩
      simp (config := { maxSteps := 4000000 }) only [↓sx0, ↓sx1, ↓sx2, ↓sx3, ↓sx4, ↓sx5, ↓sx6, sx0, sx1, sx2, sx3, sx4, sx5, sx6, tf3, ev3_hold, sxo, sxc, sxp, sxq, sxr, sxs, sxl, sxm, simprocAttr, z7]
      exact ⟨(), _, HImp.refl _ _, fun h hh => by simp [hh]⟩
  rintro _ H3 g3 hN3
  refine ⟨?_⟩
  simp (config := { maxSteps := 4000000 }) only [↓sx0, ↓sx1, ↓sx2, ↓sx3, ↓sx4, ↓sx5, ↓sx6, sx0, sx1, sx2, sx3, sx4, sx5, sx6, tf3, ev3_hold, sxo, sxc, sxp, sxq, sxr, sxs, sxl, sxm, simprocAttr]
  refine loop_constH _ (HImp.refl _ _) [(4, 4), (10, 13), (102, 140)] (fun i : Nat => [(10, I i)]) (fun i H1 => i ≤ R.length ∧ ∀ h ∈ N, h ∈ H1) (fun i => R.length - i) 0 ?_ ⟨Nat.zero_le _, fun h hh => by simp [hN3 h hh]⟩ ?_
  · simp (config := { maxSteps := 4000000 }) only [↓sx0, ↓sx1, ↓sx2, ↓sx3, ↓sx4, ↓sx5, ↓sx6, sx0, sx1, sx2, sx3, sx4, sx5, sx6, tf3, ev3_hold, sxo, sxc, sxp, sxq, sxr, sxs, sxl, sxm, simprocAttr]
    try simp
  rintro i H1 g1 ⟨hib, hN⟩
  by_cases hin1 : i = R.length
  · have e7 : ((i : Int) < (R.length : Int)) = False := eq_false (by omega)
    refine ⟨?_⟩
    simp (config := { maxSteps := 4000000 }) only [↓sx0, ↓sx1, ↓sx2, ↓sx3, ↓sx4, ↓sx5, ↓sx6, sx0, sx1, sx2, sx3, sx4, sx5, sx6, tf3, ev3_hold, sxo, sxc, sxp, sxq, sxr, sxs, sxl, sxm, simprocAttr, e7, dn]
    refine CallOb.pureH (fun w' hp => hlv _ w' hp) ?_
    rintro q NN rfl
    refine ⟨?_⟩
    simp (config := { maxSteps := 4000000 }) only [↓sx0, ↓sx1, ↓sx2, ↓sx3, ↓sx4, ↓sx5, ↓sx6, sx0, sx1, sx2, sx3, sx4, sx5, sx6, tf3, ev3_hold, sxo, sxc, sxp, sxq, sxr, sxs, sxl, sxm, simprocAttr]
  have e7 : ((i : Int) < (R.length : Int)) = True := eq_true (by omega)
  have e8 : wr (i + 1) = ((i + 1 : Nat) : Int) := (wrap_id (by omega)).trans (by omega)
  obtain ⟨y, hy⟩ : ∃ y, R[i]? = some y := ⟨_, List.getElem?_eq_getElem (by omega)⟩
  have hym := List.mem_of_getElem? hy
  rcases hin y hym with hy1 | ⟨yy, hyy, hyn⟩
  · have g0 : (y = -1) = True := eq_true hy1
    refine ⟨?_⟩
    simp (config := { maxSteps := 4000000 }) only [↓sx0, ↓sx1, ↓sx2, ↓sx3, ↓sx4, ↓sx5, ↓sx6, sx0, sx1, sx2, sx3, sx4, sx5, sx6, tf3, ev3_hold, sxo, sxc, sxp, sxq, sxr, sxs, sxl, sxm, simprocAttr, e7]
    refine amid (at_1 (hG.rdv i1_len (fun h hh => by simp [hN h hh])) i1_len hy rfl fun ad => ?_)
    simp (config := { maxSteps := 4000000 }) only [↓sx0, ↓sx1, ↓sx2, ↓sx3, ↓sx4, ↓sx5, ↓sx6, sx0, sx1, sx2, sx3, sx4, sx5, sx6, tf3, ev3_hold, sxo, sxc, sxp, sxq, sxr, sxs, sxl, sxm, simprocAttr, g0, e8]
    exact ⟨i + 1, _, rfl, HImp.refl _ _, ⟨by omega, fun h hh => by simp [hN h hh]⟩, by omega⟩
  have g0 : (y = -1) = False := eq_false (by omega)
  by_cases hyk : y = x0
  · have g1 : (y = x0) = True := eq_true hyk
    refine ⟨?_⟩
    simp (config := { maxSteps := 4000000 }) only [↓sx0, ↓sx1, ↓sx2, ↓sx3, ↓sx4, ↓sx5, ↓sx6, sx0, sx1, sx2, sx3, sx4, sx5, sx6, tf3, ev3_hold, sxo, sxc, sxp, sxq, sxr, sxs, sxl, sxm, simprocAttr, e7]
    refine amid (at_1 (hG.rdv i1_len (fun h hh => by simp [hN h hh])) i1_len hy rfl fun ad => ?_)
    simp (config := { maxSteps := 4000000 }) only [↓sx0, ↓sx1, ↓sx2, ↓sx3, ↓sx4, ↓sx5, ↓sx6, sx0, sx1, sx2, sx3, sx4, sx5, sx6, tf3, ev3_hold, sxo, sxc, sxp, sxq, sxr, sxs, sxl, sxm, simprocAttr, g0]
    refine at_1 (hG.rdv i1_len (fun h hh => by simp [hN h hh])) i1_len hy rfl fun ad => ?_
    simp (config := { maxSteps := 4000000 }) only [↓sx0, ↓sx1, ↓sx2, ↓sx3, ↓sx4, ↓sx5, ↓sx6, sx0, sx1, sx2, sx3, sx4, sx5, sx6, tf3, ev3_hold, sxo, sxc, sxp, sxq, sxr, sxs, sxl, sxm, simprocAttr, g1, e8]
    exact ⟨i + 1, _, rfl, HImp.refl _ _, ⟨by omega, fun h hh => by simp [hN h hh]⟩, by omega⟩
  have g1 : (y = x0) = False := eq_false hyk
  have hfy := hfv yy hyn
  rw [← hyy, ← hx1, hthi] at hfy
  have hf1 := hfl y x1
  rw [hfy] at hf1
  have hw1 := hwet yy (by rw [← hyy]; exact hym) (by omega)
  have g2 : (d.c.over yy t hi ≥ 1) = True := eq_true hw1
  refine ⟨?_⟩
  simp (config := { maxSteps := 4000000 }) only [↓sx0, ↓sx1, ↓sx2, ↓sx3, ↓sx4, ↓sx5, ↓sx6, sx0, sx1, sx2, sx3, sx4, sx5, sx6, tf3, ev3_hold, sxo, sxc, sxp, sxq, sxr, sxs, sxl, sxm, simprocAttr, e7]
  refine amid (at_1 (hG.rdv i1_len (fun h hh => by simp [hN h hh])) i1_len hy rfl fun ad => ?_)
  simp (config := { maxSteps := 4000000 }) only [↓sx0, ↓sx1, ↓sx2, ↓sx3, ↓sx4, ↓sx5, ↓sx6, sx0, sx1, sx2, sx3, sx4, sx5, sx6, tf3, ev3_hold, sxo, sxc, sxp, sxq, sxr, sxs, sxl, sxm, simprocAttr, g0]
  refine at_1 (hG.rdv i1_len (fun h hh => by simp [hN h hh])) i1_len hy rfl fun ad => ?_
  simp (config := { maxSteps := 4000000 }) only [↓sx0, ↓sx1, ↓sx2, ↓sx3, ↓sx4, ↓sx5, ↓sx6, sx0, sx1, sx2, sx3, sx4, sx5, sx6, tf3, ev3_hold, sxo, sxc, sxp, sxq, sxr, sxs, sxl, sxm, simprocAttr, g1]
  refine at_1 (hG.rdv i1_len (fun h hh => by simp [hN h hh])) i1_len hy rfl fun ad => ?_
  simp (config := { maxSteps := 4000000 }) only [↓sx0, ↓sx1, ↓sx2, ↓sx3, ↓sx4, ↓sx5, ↓sx6, sx0, sx1, sx2, sx3, sx4, sx5, sx6, tf3, ev3_hold, sxo, sxc, sxp, sxq, sxr, sxs, sxl, sxm, simprocAttr, dn]
  refine CallOb.pureH (fun w' hp => hf1 _ w' hp) ?_
  rintro q N5 rfl
  refine ⟨?_⟩
  simp (config := { maxSteps := 4000000 }) only [↓sx0, ↓sx1, ↓sx2, ↓sx3, ↓sx4, ↓sx5, ↓sx6, sx0, sx1, sx2, sx3, sx4, sx5, sx6, tf3, ev3_hold, sxo, sxc, sxp, sxq, sxr, sxs, sxl, sxm, simprocAttr, z0, g2, e8]
  exact ⟨i + 1, _, rfl, HImp.refl _ _, ⟨by omega, fun h hh => by simp [hN h hh]⟩, by omega⟩
end Go.Proofs.YtpmodggfogahhaaGreatDoor
