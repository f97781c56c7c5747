/- A part of a proof: the symbolic walk and what it shows of single functions. -/
import Derived.Test.YtpmodggfogahhaaGreatDoorT2
import Derived.Test.YtpmodggfogahhaaGreatDoorT3
import Derived.Test.YtpmodggfogahhaaGreatDoorC5
import Derived.Test.YtpmodggfogahhaaGreatDoorC3
import Derived.Test.YtpmodggfogahhaaGreatDoorC2
set_option linter.all false
namespace Go.Proofs.YtpmodggfogahhaaGreatDoor
open Go.RowKit Go.SX
set_option maxRecDepth 20000
set_option maxHeartbeats 0
set_option linter.unusedSimpArgs false
set_option linter.unusedVariables false
theorem g_mono {h m a s lo hi w1 w2 : Int} (ha : 0 ≤ a) (hw : w1 ≤ w2) (j : Int) : Tw.Buoy.G ⟨h, m, a, s, lo, hi, w2⟩ j ≤ Tw.Buoy.G ⟨h, m, a, s, lo, hi, w1⟩ j := by
  unfold Tw.Buoy.G
  simp only []
  have := Int.mul_le_mul_of_nonneg_left (show s + w1 ≤ s + w2 by omega) ha
  omega
theorem gt_mono {h m a s lo hi w1 w2 x T : Int} (ha : 0 ≤ a) (hw : w1 ≤ w2) (hT : 0 ≤ T) (j : Int) (hx : x ≤ Tw.Buoy.G ⟨h, m, a, s, lo, hi, w2⟩ j * T) : x ≤ Tw.Buoy.G ⟨h, m, a, s, lo, hi, w1⟩ j * T :=
  Int.le_trans hx (Int.mul_le_mul_of_nonneg_right (g_mono ha hw j) hT)
theorem buoy_check {h m a s lo hi wt : Int} (hB : Tw.isBuoyB h m a s lo hi = true) (h1 : -2000 ≤ wt) (h2 : wt ≤ 2000) : Tw.checkV h m a s lo hi wt = 0 := by
  unfold Tw.checkV
  rw [if_pos hB, if_pos (by unfold Tw.inB; simp; omega)]
theorem topDry_fn (w : World) (hw : Ways w) (v : Value) (c : Cht) (hc : ChOk w v c) (h m a s lo hi x0 x1 x2 st : Int) : SX.Fn Tryz.prog 7 [v, .agg #[I h, I m, I a, I s, I lo, I hi], .agg #[I x0, I x1, I x2, I st]] w (fun _ => False) fun q N => q = .bool true := by
  have dn : ∀ (g : Nat) (xs : List Value), det0 g xs = none := fun _ _ => rfl
  have hib := fun w' => risBuoy_fn w' h m a s lo hi
  have hlv := fun (H : List HO) w' (hp : Hp ⟨w, fun _ => False⟩ H w') => lives_fn w' (hw.hp hp)
  have hva := fun (H : List HO) w' (hp : Hp ⟨w, fun _ => False⟩ H w') => vast_fn w' v c (hc.hp hp)
  have hck := fun (hf : c.few) (H : List HO) w' (hp : Hp ⟨w, fun _ => False⟩ H w') => rcheck_fn w' v c (hc.hp hp) (few_small hf)
  have hwa := fun (hf : c.few) (k t : Int) (H : List HO) w' (hp : Hp ⟨w, fun _ => False⟩ H w') => water1_fn w' v c (hc.hp hp) (few_small hf) k t
  have hov := fun (hok : c.ok) (k t : Nat) (hk : k < c.depth.length) (ht : t < c.tide.length) (y : Int) (hy : -10000 ≤ y ∧ y ≤ 10000) (H : List HO) w' (hp : Hp ⟨w, fun _ => False⟩ H w') => over_fn w' v c (hc.hp hp) hok k t y hk ht hy
  obtain ⟨sD, sT, sS, rfl, hD, hT, hS⟩ := hc
  obtain ⟨aD, nD, cD, rfl⟩ := hD.shape
  obtain ⟨aT, nT, cT, rfl⟩ := hT.shape
  obtain ⟨aS, nS, cS, rfl⟩ := hS.shape
  have hnT := hT.le spc_len (by omega)
  have hrT := fun H => hT.rd0 H
  have hic := fun w' => isCell_fn w' c.wide c.high x0 (.slice aD nD cD) (.slice aT nT cT) (.slice aS nS cS)
  have hit := fun w' => isTick_fn w' c.wide c.high x1 (.slice aD nD cD) (.slice aS nS cS) aT nT cT
  have hib' := hib
  refine walkC [3, 17, 21] [] [(12, (ones [2, 4, 6, 9, 10, 12] (.ld 0 (.ld 1 (.ld 3 (.ld 5 (.ld 7 (.ld 11 (ones [8, 13, 14, 15, 16, 17] .fin)))))))))] (det0_ok _ _) Tryz.func7 rfl Tryz.ntmps7 res7 (by kernel_rfl) no_facts ?_
  simp (config := { maxSteps := 4000000 }) only [↓sx0, ↓sx1, ↓sx2, ↓sx3, ↓sx4, ↓sx5, ↓sx6, sx0, sx1, sx2, sx3, sx4, sx5, sx6, tf7, ev3_hold, sxo, sxc, sxp, sxq, sxr, sxs, sxl, sxm, Int.reduceBEq, Int.reduceBNe, Int.reduceLT, Int.reduceLE, Int.reduceEq, Int.reduceGT, Int.reduceGE, Int.reduceToNat, ↓reduceIte, List.reduceReplicate, Nat.reduceAdd, Nat.reduceSub, Nat.reduceMul, Nat.reduceLT, Nat.reduceLeDiff, Nat.reduceBEq, Nat.reduceEqDiff, dn]
  refine cut_constH [(17, 52)] (fun b : Bool => [(52, .bool b)]) (fun b H2 => b = false → c.few ∧ c.ok ∧ Tw.isBuoyB h m a s lo hi = true ∧ isCellB c.wide c.high x0 = true ∧ inB x1 0 (wr ((nT : Int) - 1)) = true ∧ 1 ≤ st ∧ st ≤ 1000000) ?_ ?_
  · refine ⟨?_⟩
    simp (config := { maxSteps := 4000000 }) only [↓sx0, ↓sx1, ↓sx2, ↓sx3, ↓sx4, ↓sx5, ↓sx6, sx0, sx1, sx2, sx3, sx4, sx5, sx6, tf7, ev3_hold, sxo, sxc, sxp, sxq, sxr, sxs, sxl, sxm, Int.reduceBEq, Int.reduceBNe, Int.reduceLT, Int.reduceLE, Int.reduceEq, Int.reduceGT, Int.reduceGE, Int.reduceToNat, ↓reduceIte, List.reduceReplicate, Nat.reduceAdd, Nat.reduceSub, Nat.reduceMul, Nat.reduceLT, Nat.reduceLeDiff, Nat.reduceBEq, Nat.reduceEqDiff, dn]
    refine CallOb.pureH (fun w' hp' => hva _ w' hp') ?_
    rintro q N ⟨bv, rfl, hbv⟩
    cases bv with
    | true =>
      refine ⟨?_⟩
      simp (config := { maxSteps := 4000000 }) only [↓sx0, ↓sx1, ↓sx2, ↓sx3, ↓sx4, ↓sx5, ↓sx6, sx0, sx1, sx2, sx3, sx4, sx5, sx6, tf7, ev3_hold, sxo, sxc, sxp, sxq, sxr, sxs, sxl, sxm, Int.reduceBEq, Int.reduceBNe, Int.reduceLT, Int.reduceLE, Int.reduceEq, Int.reduceGT, Int.reduceGE, Int.reduceToNat, ↓reduceIte, List.reduceReplicate, Nat.reduceAdd, Nat.reduceSub, Nat.reduceMul, Nat.reduceLT, Nat.reduceLeDiff, Nat.reduceBEq, Nat.reduceEqDiff, dn]
      exact ⟨true, _, rfl, HImp.refl _ _, fun h => by cases h⟩
    | false =>
    have hf := (hbv rfl).1
    have hck := hck hf
    refine ⟨?_⟩
    simp (config := { maxSteps := 4000000 }) only [↓sx0, ↓sx1, ↓sx2, ↓sx3, ↓sx4, ↓sx5, ↓sx6, sx0, sx1, sx2, sx3, sx4, sx5, sx6, tf7, ev3_hold, sxo, sxc, sxp, sxq, sxr, sxs, sxl, sxm, Int.reduceBEq, Int.reduceBNe, Int.reduceLT, Int.reduceLE, Int.reduceEq, Int.reduceGT, Int.reduceGE, Int.reduceToNat, ↓reduceIte, List.reduceReplicate, Nat.reduceAdd, Nat.reduceSub, Nat.reduceMul, Nat.reduceLT, Nat.reduceLeDiff, Nat.reduceBEq, Nat.reduceEqDiff, dn]
    refine CallOb.pureH (fun w' hp' => hck _ w' hp') ?_
    rintro q N2 rfl
    by_cases hok : c.ok
    case neg =>
      have hkb : c.okB = false := by
        cases hk : c.okB with
        | false => rfl
        | true => exact absurd ((okB_iff c).1 hk) hok
      have z1 : ((if c.okB = true then (0 : Int) else 10) = 0) = False := eq_false (by rw [hkb]; simp)
      refine ⟨?_⟩
      simp (config := { maxSteps := 4000000 }) only [↓sx0, ↓sx1, ↓sx2, ↓sx3, ↓sx4, ↓sx5, ↓sx6, sx0, sx1, sx2, sx3, sx4, sx5, sx6, tf7, ev3_hold, sxo, sxc, sxp, sxq, sxr, sxs, sxl, sxm, Int.reduceBEq, Int.reduceBNe, Int.reduceLT, Int.reduceLE, Int.reduceEq, Int.reduceGT, Int.reduceGE, Int.reduceToNat, ↓reduceIte, List.reduceReplicate, Nat.reduceAdd, Nat.reduceSub, Nat.reduceMul, Nat.reduceLT, Nat.reduceLeDiff, Nat.reduceBEq, Nat.reduceEqDiff, z1, dn]
      exact ⟨true, _, rfl, HImp.refl _ _, fun h => by cases h⟩
    have hkb : c.okB = true := (okB_iff c).2 hok
    have z1 : ((if c.okB = true then (0 : Int) else 10) = 0) = True := eq_true (by rw [hkb]; simp)
    refine ⟨?_⟩
    simp (config := { maxSteps := 4000000 }) only [↓sx0, ↓sx1, ↓sx2, ↓sx3, ↓sx4, ↓sx5, ↓sx6, sx0, sx1, sx2, sx3, sx4, sx5, sx6, tf7, ev3_hold, sxo, sxc, sxp, sxq, sxr, sxs, sxl, sxm, Int.reduceBEq, Int.reduceBNe, Int.reduceLT, Int.reduceLE, Int.reduceEq, Int.reduceGT, Int.reduceGE, Int.reduceToNat, ↓reduceIte, List.reduceReplicate, Nat.reduceAdd, Nat.reduceSub, Nat.reduceMul, Nat.reduceLT, Nat.reduceLeDiff, Nat.reduceBEq, Nat.reduceEqDiff, z1, dn]
    refine CallOb.pureH (fun w' hp => hib w') ?_
    rintro q N3 rfl
    cases hB : Tw.isBuoyB h m a s lo hi with
    | false =>
      refine ⟨?_⟩
      simp (config := { maxSteps := 4000000 }) only [↓sx0, ↓sx1, ↓sx2, ↓sx3, ↓sx4, ↓sx5, ↓sx6, sx0, sx1, sx2, sx3, sx4, sx5, sx6, tf7, ev3_hold, sxo, sxc, sxp, sxq, sxr, sxs, sxl, sxm, Int.reduceBEq, Int.reduceBNe, Int.reduceLT, Int.reduceLE, Int.reduceEq, Int.reduceGT, Int.reduceGE, Int.reduceToNat, ↓reduceIte, List.reduceReplicate, Nat.reduceAdd, Nat.reduceSub, Nat.reduceMul, Nat.reduceLT, Nat.reduceLeDiff, Nat.reduceBEq, Nat.reduceEqDiff, dn]
      exact ⟨true, _, rfl, HImp.refl _ _, fun h => by cases h⟩
    | true =>
    refine ⟨?_⟩
    simp (config := { maxSteps := 4000000 }) only [↓sx0, ↓sx1, ↓sx2, ↓sx3, ↓sx4, ↓sx5, ↓sx6, sx0, sx1, sx2, sx3, sx4, sx5, sx6, tf7, ev3_hold, sxo, sxc, sxp, sxq, sxr, sxs, sxl, sxm, Int.reduceBEq, Int.reduceBNe, Int.reduceLT, Int.reduceLE, Int.reduceEq, Int.reduceGT, Int.reduceGE, Int.reduceToNat, ↓reduceIte, List.reduceReplicate, Nat.reduceAdd, Nat.reduceSub, Nat.reduceMul, Nat.reduceLT, Nat.reduceLeDiff, Nat.reduceBEq, Nat.reduceEqDiff, dn]
    refine CallOb.pureH (fun w' hp => hic w') ?_
    rintro q N4 rfl
    cases hC : isCellB c.wide c.high x0 with
    | false =>
      refine ⟨?_⟩
      simp (config := { maxSteps := 4000000 }) only [↓sx0, ↓sx1, ↓sx2, ↓sx3, ↓sx4, ↓sx5, ↓sx6, sx0, sx1, sx2, sx3, sx4, sx5, sx6, tf7, ev3_hold, sxo, sxc, sxp, sxq, sxr, sxs, sxl, sxm, Int.reduceBEq, Int.reduceBNe, Int.reduceLT, Int.reduceLE, Int.reduceEq, Int.reduceGT, Int.reduceGE, Int.reduceToNat, ↓reduceIte, List.reduceReplicate, Nat.reduceAdd, Nat.reduceSub, Nat.reduceMul, Nat.reduceLT, Nat.reduceLeDiff, Nat.reduceBEq, Nat.reduceEqDiff, dn]
      exact ⟨true, _, rfl, HImp.refl _ _, fun h => by cases h⟩
    | true =>
    refine ⟨?_⟩
    simp (config := { maxSteps := 4000000 }) only [↓sx0, ↓sx1, ↓sx2, ↓sx3, ↓sx4, ↓sx5, ↓sx6, sx0, sx1, sx2, sx3, sx4, sx5, sx6, tf7, ev3_hold, sxo, sxc, sxp, sxq, sxr, sxs, sxl, sxm, Int.reduceBEq, Int.reduceBNe, Int.reduceLT, Int.reduceLE, Int.reduceEq, Int.reduceGT, Int.reduceGE, Int.reduceToNat, ↓reduceIte, List.reduceReplicate, Nat.reduceAdd, Nat.reduceSub, Nat.reduceMul, Nat.reduceLT, Nat.reduceLeDiff, Nat.reduceBEq, Nat.reduceEqDiff, dn]
    refine CallOb.pureH (fun w' hp => hit w') ?_
    rintro q N5 rfl
    cases hTk : inB x1 0 (wr ((nT : Int) - 1)) with
    | false =>
      refine ⟨?_⟩
      simp (config := { maxSteps := 4000000 }) only [↓sx0, ↓sx1, ↓sx2, ↓sx3, ↓sx4, ↓sx5, ↓sx6, sx0, sx1, sx2, sx3, sx4, sx5, sx6, tf7, ev3_hold, sxo, sxc, sxp, sxq, sxr, sxs, sxl, sxm, Int.reduceBEq, Int.reduceBNe, Int.reduceLT, Int.reduceLE, Int.reduceEq, Int.reduceGT, Int.reduceGE, Int.reduceToNat, ↓reduceIte, List.reduceReplicate, Nat.reduceAdd, Nat.reduceSub, Nat.reduceMul, Nat.reduceLT, Nat.reduceLeDiff, Nat.reduceBEq, Nat.reduceEqDiff, dn]
      exact ⟨true, _, rfl, HImp.refl _ _, fun h => by cases h⟩
    | true =>
    by_cases k1 : st < 1
    · have z2 : (st < 1) = True := eq_true k1
      refine ⟨?_⟩
      simp (config := { maxSteps := 4000000 }) only [↓sx0, ↓sx1, ↓sx2, ↓sx3, ↓sx4, ↓sx5, ↓sx6, sx0, sx1, sx2, sx3, sx4, sx5, sx6, tf7, ev3_hold, sxo, sxc, sxp, sxq, sxr, sxs, sxl, sxm, Int.reduceBEq, Int.reduceBNe, Int.reduceLT, Int.reduceLE, Int.reduceEq, Int.reduceGT, Int.reduceGE, Int.reduceToNat, ↓reduceIte, List.reduceReplicate, Nat.reduceAdd, Nat.reduceSub, Nat.reduceMul, Nat.reduceLT, Nat.reduceLeDiff, Nat.reduceBEq, Nat.reduceEqDiff, z2, dn]
      exact ⟨true, _, rfl, HImp.refl _ _, fun h => by cases h⟩
    have z2 : (st < 1) = False := eq_false k1
    by_cases k2 : st > 1000000
    · have z3 : (st > 1000000) = True := eq_true k2
      refine ⟨?_⟩
      simp (config := { maxSteps := 4000000 }) only [↓sx0, ↓sx1, ↓sx2, ↓sx3, ↓sx4, ↓sx5, ↓sx6, sx0, sx1, sx2, sx3, sx4, sx5, sx6, tf7, ev3_hold, sxo, sxc, sxp, sxq, sxr, sxs, sxl, sxm, Int.reduceBEq, Int.reduceBNe, Int.reduceLT, Int.reduceLE, Int.reduceEq, Int.reduceGT, Int.reduceGE, Int.reduceToNat, ↓reduceIte, List.reduceReplicate, Nat.reduceAdd, Nat.reduceSub, Nat.reduceMul, Nat.reduceLT, Nat.reduceLeDiff, Nat.reduceBEq, Nat.reduceEqDiff, z2, z3, dn]
      exact ⟨true, _, rfl, HImp.refl _ _, fun h => by cases h⟩
    have z3 : (st > 1000000) = False := eq_false k2
    refine ⟨?_⟩
    simp (config := { maxSteps := 4000000 }) only [↓sx0, ↓sx1, ↓sx2, ↓sx3, ↓sx4, ↓sx5, ↓sx6, sx0, sx1, sx2, sx3, sx4, sx5, sx6, tf7, ev3_hold, sxo, sxc, sxp, sxq, sxr, sxs, sxl, sxm, Int.reduceBEq, Int.reduceBNe, Int.reduceLT, Int.reduceLE, Int.reduceEq, Int.reduceGT, Int.reduceGE, Int.reduceToNat, ↓reduceIte, List.reduceReplicate, Nat.reduceAdd, Nat.reduceSub, Nat.reduceMul, Nat.reduceLT, Nat.reduceLeDiff, Nat.reduceBEq, Nat.reduceEqDiff, z2, z3, dn]
    exact ⟨false, _, rfl, HImp.refl _ _, fun _ => by
      refine ⟨hf, hok, ?_⟩
      omega⟩
  rintro b H2 g2 hb
  cases b with
  | true =>
    refine ⟨?_⟩
    simp (config := { maxSteps := 4000000 }) only [↓sx0, ↓sx1, ↓sx2, ↓sx3, ↓sx4, ↓sx5, ↓sx6, sx0, sx1, sx2, sx3, sx4, sx5, sx6, tf7, ev3_hold, sxo, sxc, sxp, sxq, sxr, sxs, sxl, sxm, Int.reduceBEq, Int.reduceBNe, Int.reduceLT, Int.reduceLE, Int.reduceEq, Int.reduceGT, Int.reduceGE, Int.reduceToNat, ↓reduceIte, List.reduceReplicate, Nat.reduceAdd, Nat.reduceSub, Nat.reduceMul, Nat.reduceLT, Nat.reduceLeDiff, Nat.reduceBEq, Nat.reduceEqDiff, dn]
    refine CallOb.pureH (fun w' hp => hlv _ w' hp) ?_
    rintro q NN rfl
    refine ⟨?_⟩
    simp (config := { maxSteps := 4000000 }) only [↓sx0, ↓sx1, ↓sx2, ↓sx3, ↓sx4, ↓sx5, ↓sx6, sx0, sx1, sx2, sx3, sx4, sx5, sx6, tf7, ev3_hold, sxo, sxc, sxp, sxq, sxr, sxs, sxl, sxm, Int.reduceBEq, Int.reduceBNe, Int.reduceLT, Int.reduceLE, Int.reduceEq, Int.reduceGT, Int.reduceGE, Int.reduceToNat, ↓reduceIte, List.reduceReplicate, Nat.reduceAdd, Nat.reduceSub, Nat.reduceMul, Nat.reduceLT, Nat.reduceLeDiff, Nat.reduceBEq, Nat.reduceEqDiff]
  | false =>
  obtain ⟨hf, hok, hB, hC, hTk, f0, f1⟩ := hb rfl
  have hkb : c.okB = true := (okB_iff c).2 hok
  rw [isCell_iff hok] at hC
  have hnc : notCell c x0 = false := by simpa using hC
  have hC2 := hnc
  unfold notCell at hC2
  rw [Bool.not_eq_false', inB_iff] at hC2
  have h60 := hok.2.2.2.1
  have hnt : notTick c x1 = false := by
    unfold notTick
    rw [inB_iff] at hTk
    have e : wr ((nT : Int) - 1) = (nT : Int) - 1 := wrap_id (by omega)
    rw [e] at hTk
    rw [(inB_iff _ _ _).2 (by omega)]
    rfl
  have hT2 := hnt
  unfold notTick at hT2
  rw [Bool.not_eq_false', inB_iff] at hT2
  obtain ⟨k, hx0⟩ : ∃ k : Nat, x0 = k := ⟨x0.toNat, by omega⟩
  obtain ⟨t, hx1⟩ : ∃ t : Nat, x1 = t := ⟨x1.toNat, by omega⟩
  have hk : k < c.depth.length := by omega
  have ht : t < c.tide.length := by omega
  have hbd := hok.bds hk ht
  have hop : openE c [x0] [x1] [] = 0 := by
    unfold openE
    rw [hkb, if_pos rfl]
    simp [hnc, hnt]
  have hwv : waterV c x0 x1 = .tuple #[.agg #[I (c.over k t (c.tlo t)), I (c.over k t (c.thi t))], I 0] := by
    unfold waterV
    rw [if_pos hop, hx0, hx1]
    rfl
  have hwa := hwa hf x0 x1
  simp only [hwv] at hwa
  obtain ⟨wl, hwl⟩ : ∃ wl, c.over k t (c.tlo t) = wl := ⟨_, rfl⟩
  obtain ⟨wh, hwh⟩ : ∃ wh, c.over k t (c.thi t) = wh := ⟨_, rfl⟩
  simp only [hwl, hwh] at hwa
  have ho : ∀ y, c.over k t y = c.dep k + y - c.swl t := fun _ => rfl
  have bl : -2000 ≤ wl ∧ wl ≤ wh ∧ wh ≤ 2000 := by
    have h1 := ho (c.tlo t)
    have h2 := ho (c.thi t)
    omega
  have hkl := buoy_check (wt := wl) hB (by omega) (by omega)
  have hkh := buoy_check (wt := wh) hB (by omega) (by omega)
  have okl := Tw.ok_of_check hkl
  have okh := Tw.ok_of_check hkh
  have ok' := okl
  unfold Tw.Buoy.ok at ok'
  simp only [] at ok'
  have hvl : Tw.carryV h m a s lo hi wl st = 0 := by
    unfold Tw.carryV
    rw [if_pos hkl, if_pos (by unfold Tw.inB; simp; omega)]
  have hvh : Tw.carryV h m a s lo hi wh st = 0 := by
    unfold Tw.carryV
    rw [if_pos hkh, if_pos (by unfold Tw.inB; simp; omega)]
  obtain ⟨cl, hcl, cl0, cl5, hclw⟩ := Tw.carry_told okl (st := st) ⟨by omega, by omega⟩ hvl
  obtain ⟨ch, hch, ch0, ch5, hchw⟩ := Tw.carry_told okh (st := st) ⟨by omega, by omega⟩ hvh
  simp only [] at hcl hch hclw hchw
  have hcal := fun w' => Tw.carry_fn w' h m a s lo hi wl st
  have hcah := fun w' => Tw.carry_fn w' h m a s lo hi wh st
  simp only [hcl] at hcal
  simp only [hch] at hcah
  have hsll := fun w' => Tw.slack_fn w' h m a s lo hi wl
  have hslh := fun w' => Tw.slack_fn w' h m a s lo hi wh
  have hle : ch ≤ cl := by
    by_cases h1 : 1 ≤ ch
    · exact (hclw ch h1 ch5).2 fun j hj => gt_mono (by omega) bl.2.1 (by omega) j ((hchw ch h1 ch5).1 (Int.le_refl _) j hj)
    · omega
  have g0 : (ch > cl) = False := eq_false (by omega)
  have z0 : ((0 : Int) = 0) = True := eq_true rfl
  -- what Slack says of both
  have hH : ∃ nh eh, Tw.slackR h m a s lo hi wh = (nh, eh) ∧ (eh = 3 ∨ (eh = 0 ∧ (1 ≤ nh ∧ nh ≤ 1073741824) ∧ ∀ j : Nat, (j : Int) ≤ a → hi * Tw.Buoy.S ⟨h, m, a, s, lo, hi, wh⟩ j ≤ Tw.Buoy.G ⟨h, m, a, s, lo, hi, wh⟩ j * nh)) := by
    rcases Tw.slack_told okh hkh with ⟨hsh, _⟩ | ⟨nh, hsh, nh1, nh2, hnh⟩
    · exact ⟨_, _, hsh, .inl rfl⟩
    · have hdr := (hnh nh).1 (Int.le_refl _)
      exact ⟨nh, 0, hsh, .inr ⟨rfl, ⟨by omega, by omega⟩, hdr.2⟩⟩
  obtain ⟨nh, eh, hsh, hh⟩ := hH
  have hL : ∃ nl el, Tw.slackR h m a s lo hi wl = (nl, el) ∧ ((el = 3 ∧ eh = 3) ∨ (el = 0 ∧ (eh = 0 → nl ≤ nh))) := by
    rcases Tw.slack_told okl hkl with ⟨hsl, jb, hjb, hbad⟩ | ⟨nl, hsl, nl1, nl2, hnl⟩
    · refine ⟨_, _, hsl, ?_⟩
      rcases hh with h3 | ⟨h0, hn, hdr⟩
      · exact .inl ⟨rfl, h3⟩
      · exfalso
        have hd := Tw.Buoy.bd okl (x := jb) (by omega) hjb
        exact Tw.bad_dry (T := nh) (by omega) (by omega) hbad hd.2.2.1 (gt_mono (by omega) bl.2.1 (by omega) jb (hdr jb hjb))
    · refine ⟨nl, 0, hsl, .inr ⟨rfl, fun h0 => ?_⟩⟩
      rcases hh with h3 | ⟨_, hn, hdr⟩
      · omega
      · exact (hnl nh).2 ⟨by omega, fun j hj => gt_mono (by omega) bl.2.1 (by omega) j (hdr j hj)⟩
  obtain ⟨nl, el, hsl, hll⟩ := hL
  simp only [hsh] at hslh
  simp only [hsl] at hsll
  have htp := getD_at ht (0, 0)
  have htl : c.tlo t = (c.tide.getD t (0, 0)).1 := rfl
  have hth : c.thi t = (c.tide.getD t (0, 0)).2 := rfl
  have htp1 : c.tide[x1.toNat]? = some (c.tide.getD t (0, 0)) := by rw [hx1, Int.toNat_natCast]; exact htp
  refine ⟨?_⟩
  simp (config := { maxSteps := 4000000 }) only [↓sx0, ↓sx1, ↓sx2, ↓sx3, ↓sx4, ↓sx5, ↓sx6, sx0, sx1, sx2, sx3, sx4, sx5, sx6, tf7, ev3_hold, sxo, sxc, sxp, sxq, sxr, sxs, sxl, sxm, Int.reduceBEq, Int.reduceBNe, Int.reduceLT, Int.reduceLE, Int.reduceEq, Int.reduceGT, Int.reduceGE, Int.reduceToNat, ↓reduceIte, List.reduceReplicate, Nat.reduceAdd, Nat.reduceSub, Nat.reduceMul, Nat.reduceLT, Nat.reduceLeDiff, Nat.reduceBEq, Nat.reduceEqDiff, dn]
  refine CallOb.pureH (fun w' hp' => hwa _ w' hp') ?_
  rintro q N7 rfl
  refine ⟨?_⟩
  simp (config := { maxSteps := 4000000 }) only [↓sx0, ↓sx1, ↓sx2, ↓sx3, ↓sx4, ↓sx5, ↓sx6, sx0, sx1, sx2, sx3, sx4, sx5, sx6, tf7, ev3_hold, sxo, sxc, sxp, sxq, sxr, sxs, sxl, sxm, Int.reduceBEq, Int.reduceBNe, Int.reduceLT, Int.reduceLE, Int.reduceEq, Int.reduceGT, Int.reduceGE, Int.reduceToNat, ↓reduceIte, List.reduceReplicate, Nat.reduceAdd, Nat.reduceSub, Nat.reduceMul, Nat.reduceLT, Nat.reduceLeDiff, Nat.reduceBEq, Nat.reduceEqDiff, dn]
  refine CallOb.pureH (fun w' hp' => hslh w') ?_
  rintro q N8 rfl
  refine ⟨?_⟩
  simp (config := { maxSteps := 4000000 }) only [↓sx0, ↓sx1, ↓sx2, ↓sx3, ↓sx4, ↓sx5, ↓sx6, sx0, sx1, sx2, sx3, sx4, sx5, sx6, tf7, ev3_hold, sxo, sxc, sxp, sxq, sxr, sxs, sxl, sxm, Int.reduceBEq, Int.reduceBNe, Int.reduceLT, Int.reduceLE, Int.reduceEq, Int.reduceGT, Int.reduceGE, Int.reduceToNat, ↓reduceIte, List.reduceReplicate, Nat.reduceAdd, Nat.reduceSub, Nat.reduceMul, Nat.reduceLT, Nat.reduceLeDiff, Nat.reduceBEq, Nat.reduceEqDiff, dn]
  refine CallOb.pureH (fun w' hp' => hsll w') ?_
  rintro q N9 rfl
  refine ⟨?_⟩
  simp (config := { maxSteps := 4000000 }) only [↓sx0, ↓sx1, ↓sx2, ↓sx3, ↓sx4, ↓sx5, ↓sx6, sx0, sx1, sx2, sx3, sx4, sx5, sx6, tf7, ev3_hold, sxo, sxc, sxp, sxq, sxr, sxs, sxl, sxm, Int.reduceBEq, Int.reduceBNe, Int.reduceLT, Int.reduceLE, Int.reduceEq, Int.reduceGT, Int.reduceGE, Int.reduceToNat, ↓reduceIte, List.reduceReplicate, Nat.reduceAdd, Nat.reduceSub, Nat.reduceMul, Nat.reduceLT, Nat.reduceLeDiff, Nat.reduceBEq, Nat.reduceEqDiff, dn]
  refine CallOb.pureH (fun w' hp' => hcal w') ?_
  rintro q N10 rfl
  refine ⟨?_⟩
  simp (config := { maxSteps := 4000000 }) only [↓sx0, ↓sx1, ↓sx2, ↓sx3, ↓sx4, ↓sx5, ↓sx6, sx0, sx1, sx2, sx3, sx4, sx5, sx6, tf7, ev3_hold, sxo, sxc, sxp, sxq, sxr, sxs, sxl, sxm, Int.reduceBEq, Int.reduceBNe, Int.reduceLT, Int.reduceLE, Int.reduceEq, Int.reduceGT, Int.reduceGE, Int.reduceToNat, ↓reduceIte, List.reduceReplicate, Nat.reduceAdd, Nat.reduceSub, Nat.reduceMul, Nat.reduceLT, Nat.reduceLeDiff, Nat.reduceBEq, Nat.reduceEqDiff, dn]
  refine CallOb.pureH (fun w' hp' => hcah w') ?_
  rintro q N11 rfl
  refine ⟨?_⟩
  simp (config := { maxSteps := 4000000 }) only [↓sx0, ↓sx1, ↓sx2, ↓sx3, ↓sx4, ↓sx5, ↓sx6, sx0, sx1, sx2, sx3, sx4, sx5, sx6, tf7, ev3_hold, sxo, sxc, sxp, sxq, sxr, sxs, sxl, sxm, Int.reduceBEq, Int.reduceBNe, Int.reduceLT, Int.reduceLE, Int.reduceEq, Int.reduceGT, Int.reduceGE, Int.reduceToNat, ↓reduceIte, List.reduceReplicate, Nat.reduceAdd, Nat.reduceSub, Nat.reduceMul, Nat.reduceLT, Nat.reduceLeDiff, Nat.reduceBEq, Nat.reduceEqDiff, dn]
  refine cut_constH [(95, 138)] (fun _ : Unit => [(138, .bool false)]) (fun _ H3 => True) ?_ ?_
  · rcases hll with ⟨e1, e2⟩ | ⟨e1, hnn⟩
    · have p1 : (eh = 0) = False := eq_false (by omega)
      have p2 : (eh = 3) = True := eq_true (by omega)
      have p3 : (el = 0) = False := eq_false (by omega)
      have p4 : (el = 3) = True := eq_true (by omega)
      refine ⟨?_⟩
      simp (config := { maxSteps := 4000000 }) only [↓sx0, ↓sx1, ↓sx2, ↓sx3, ↓sx4, ↓sx5, ↓sx6, sx0, sx1, sx2, sx3, sx4, sx5, sx6, tf7, ev3_hold, sxo, sxc, sxp, sxq, sxr, sxs, sxl, sxm, Int.reduceBEq, Int.reduceBNe, Int.reduceLT, Int.reduceLE, Int.reduceEq, Int.reduceGT, Int.reduceGE, Int.reduceToNat, ↓reduceIte, List.reduceReplicate, Nat.reduceAdd, Nat.reduceSub, Nat.reduceMul, Nat.reduceLT, Nat.reduceLeDiff, Nat.reduceBEq, Nat.reduceEqDiff, z0, g0, p1, p2, p3, p4]
      first | exact ⟨(), _, rfl, HImp.refl _ _, trivial⟩ | exact ⟨(), _, HImp.refl _ _⟩
    · have p3 : (el = 0) = True := eq_true (by omega)
      rcases hh with h3 | ⟨h0, hn, hdr⟩
      · have p1 : (eh = 0) = False := eq_false (by omega)
        have p2 : (eh = 3) = True := eq_true (by omega)
        refine ⟨?_⟩
        simp (config := { maxSteps := 4000000 }) only [↓sx0, ↓sx1, ↓sx2, ↓sx3, ↓sx4, ↓sx5, ↓sx6, sx0, sx1, sx2, sx3, sx4, sx5, sx6, tf7, ev3_hold, sxo, sxc, sxp, sxq, sxr, sxs, sxl, sxm, Int.reduceBEq, Int.reduceBNe, Int.reduceLT, Int.reduceLE, Int.reduceEq, Int.reduceGT, Int.reduceGE, Int.reduceToNat, ↓reduceIte, List.reduceReplicate, Nat.reduceAdd, Nat.reduceSub, Nat.reduceMul, Nat.reduceLT, Nat.reduceLeDiff, Nat.reduceBEq, Nat.reduceEqDiff, z0, g0, p1, p2, p3]
        first | exact ⟨(), _, rfl, HImp.refl _ _, trivial⟩ | exact ⟨(), _, HImp.refl _ _⟩
      · have p1 : (eh = 0) = True := eq_true (by omega)
        have p5 : (nl > nh) = False := eq_false (by have := hnn h0; omega)
        refine ⟨?_⟩
        simp (config := { maxSteps := 4000000 }) only [↓sx0, ↓sx1, ↓sx2, ↓sx3, ↓sx4, ↓sx5, ↓sx6, sx0, sx1, sx2, sx3, sx4, sx5, sx6, tf7, ev3_hold, sxo, sxc, sxp, sxq, sxr, sxs, sxl, sxm, Int.reduceBEq, Int.reduceBNe, Int.reduceLT, Int.reduceLE, Int.reduceEq, Int.reduceGT, Int.reduceGE, Int.reduceToNat, ↓reduceIte, List.reduceReplicate, Nat.reduceAdd, Nat.reduceSub, Nat.reduceMul, Nat.reduceLT, Nat.reduceLeDiff, Nat.reduceBEq, Nat.reduceEqDiff, z0, g0, p1, p3, p5]
        first | exact ⟨(), _, rfl, HImp.refl _ _, trivial⟩ | exact ⟨(), _, HImp.refl _ _⟩
  rintro _ H3 g3 _
  refine ⟨?_⟩
  simp (config := { maxSteps := 4000000 }) only [↓sx0, ↓sx1, ↓sx2, ↓sx3, ↓sx4, ↓sx5, ↓sx6, sx0, sx1, sx2, sx3, sx4, sx5, sx6, tf7, ev3_hold, sxo, sxc, sxp, sxq, sxr, sxs, sxl, sxm, Int.reduceBEq, Int.reduceBNe, Int.reduceLT, Int.reduceLE, Int.reduceEq, Int.reduceGT, Int.reduceGE, Int.reduceToNat, ↓reduceIte, List.reduceReplicate, Nat.reduceAdd, Nat.reduceSub, Nat.reduceMul, Nat.reduceLT, Nat.reduceLeDiff, Nat.reduceBEq, Nat.reduceEqDiff]
  refine cut_constH [(139, 164)] (fun b : Bool => [(164, .bool b)]) (fun b H4 => b = false → eh = 0 ∧ c.tlo t ≤ x2 ∧ x2 ≤ c.thi t) ?_ ?_
  · by_cases q0 : eh = 0
    case neg =>
      have p1 : (eh = 0) = False := eq_false q0
      refine ⟨?_⟩
      simp (config := { maxSteps := 4000000 }) only [↓sx0, ↓sx1, ↓sx2, ↓sx3, ↓sx4, ↓sx5, ↓sx6, sx0, sx1, sx2, sx3, sx4, sx5, sx6, tf7, ev3_hold, sxo, sxc, sxp, sxq, sxr, sxs, sxl, sxm, Int.reduceBEq, Int.reduceBNe, Int.reduceLT, Int.reduceLE, Int.reduceEq, Int.reduceGT, Int.reduceGE, Int.reduceToNat, ↓reduceIte, List.reduceReplicate, Nat.reduceAdd, Nat.reduceSub, Nat.reduceMul, Nat.reduceLT, Nat.reduceLeDiff, Nat.reduceBEq, Nat.reduceEqDiff, p1]
      exact ⟨true, _, rfl, HImp.refl _ _, fun h => by cases h⟩
    have p1 : (eh = 0) = True := eq_true q0
    by_cases d0 : x2 < c.tlo t
    · have e0 : (x2 < c.tlo t) = True := eq_true d0
      refine ⟨?_⟩
      simp (config := { maxSteps := 4000000 }) only [↓sx0, ↓sx1, ↓sx2, ↓sx3, ↓sx4, ↓sx5, ↓sx6, sx0, sx1, sx2, sx3, sx4, sx5, sx6, tf7, ev3_hold, sxo, sxc, sxp, sxq, sxr, sxs, sxl, sxm, Int.reduceBEq, Int.reduceBNe, Int.reduceLT, Int.reduceLE, Int.reduceEq, Int.reduceGT, Int.reduceGE, Int.reduceToNat, ↓reduceIte, List.reduceReplicate, Nat.reduceAdd, Nat.reduceSub, Nat.reduceMul, Nat.reduceLT, Nat.reduceLeDiff, Nat.reduceBEq, Nat.reduceEqDiff, p1]
      refine ⟨by omega, by omega, (at_f (hrT _) spc_len htp1 (o := 0) (x := I (c.tlo t)) rfl fun ad1 => ?_).2.2⟩
      simp (config := { maxSteps := 4000000 }) only [↓sx0, ↓sx1, ↓sx2, ↓sx3, ↓sx4, ↓sx5, ↓sx6, sx0, sx1, sx2, sx3, sx4, sx5, sx6, tf7, ev3_hold, sxo, sxc, sxp, sxq, sxr, sxs, sxl, sxm, Int.reduceBEq, Int.reduceBNe, Int.reduceLT, Int.reduceLE, Int.reduceEq, Int.reduceGT, Int.reduceGE, Int.reduceToNat, ↓reduceIte, List.reduceReplicate, Nat.reduceAdd, Nat.reduceSub, Nat.reduceMul, Nat.reduceLT, Nat.reduceLeDiff, Nat.reduceBEq, Nat.reduceEqDiff, e0]
      exact ⟨true, _, rfl, HImp.refl _ _, fun h => by cases h⟩
    have e0 : (x2 < c.tlo t) = False := eq_false d0
    by_cases d1 : x2 > c.thi t
    · have e1 : (x2 > c.thi t) = True := eq_true d1
      refine ⟨?_⟩
      simp (config := { maxSteps := 4000000 }) only [↓sx0, ↓sx1, ↓sx2, ↓sx3, ↓sx4, ↓sx5, ↓sx6, sx0, sx1, sx2, sx3, sx4, sx5, sx6, tf7, ev3_hold, sxo, sxc, sxp, sxq, sxr, sxs, sxl, sxm, Int.reduceBEq, Int.reduceBNe, Int.reduceLT, Int.reduceLE, Int.reduceEq, Int.reduceGT, Int.reduceGE, Int.reduceToNat, ↓reduceIte, List.reduceReplicate, Nat.reduceAdd, Nat.reduceSub, Nat.reduceMul, Nat.reduceLT, Nat.reduceLeDiff, Nat.reduceBEq, Nat.reduceEqDiff, p1]
      refine ⟨by omega, by omega, (at_f (hrT _) spc_len htp1 (o := 0) (x := I (c.tlo t)) rfl fun ad1 => ?_).2.2⟩
      simp (config := { maxSteps := 4000000 }) only [↓sx0, ↓sx1, ↓sx2, ↓sx3, ↓sx4, ↓sx5, ↓sx6, sx0, sx1, sx2, sx3, sx4, sx5, sx6, tf7, ev3_hold, sxo, sxc, sxp, sxq, sxr, sxs, sxl, sxm, Int.reduceBEq, Int.reduceBNe, Int.reduceLT, Int.reduceLE, Int.reduceEq, Int.reduceGT, Int.reduceGE, Int.reduceToNat, ↓reduceIte, List.reduceReplicate, Nat.reduceAdd, Nat.reduceSub, Nat.reduceMul, Nat.reduceLT, Nat.reduceLeDiff, Nat.reduceBEq, Nat.reduceEqDiff, e0]
      refine ⟨by omega, by omega, (at_f (hrT _) spc_len htp1 (o := 1) (x := I (c.thi t)) rfl fun ad1 => ?_).2.2⟩
      simp (config := { maxSteps := 4000000 }) only [↓sx0, ↓sx1, ↓sx2, ↓sx3, ↓sx4, ↓sx5, ↓sx6, sx0, sx1, sx2, sx3, sx4, sx5, sx6, tf7, ev3_hold, sxo, sxc, sxp, sxq, sxr, sxs, sxl, sxm, Int.reduceBEq, Int.reduceBNe, Int.reduceLT, Int.reduceLE, Int.reduceEq, Int.reduceGT, Int.reduceGE, Int.reduceToNat, ↓reduceIte, List.reduceReplicate, Nat.reduceAdd, Nat.reduceSub, Nat.reduceMul, Nat.reduceLT, Nat.reduceLeDiff, Nat.reduceBEq, Nat.reduceEqDiff, e1]
      exact ⟨true, _, rfl, HImp.refl _ _, fun h => by cases h⟩
    have e1 : (x2 > c.thi t) = False := eq_false d1
    refine ⟨?_⟩
    simp (config := { maxSteps := 4000000 }) only [↓sx0, ↓sx1, ↓sx2, ↓sx3, ↓sx4, ↓sx5, ↓sx6, sx0, sx1, sx2, sx3, sx4, sx5, sx6, tf7, ev3_hold, sxo, sxc, sxp, sxq, sxr, sxs, sxl, sxm, Int.reduceBEq, Int.reduceBNe, Int.reduceLT, Int.reduceLE, Int.reduceEq, Int.reduceGT, Int.reduceGE, Int.reduceToNat, ↓reduceIte, List.reduceReplicate, Nat.reduceAdd, Nat.reduceSub, Nat.reduceMul, Nat.reduceLT, Nat.reduceLeDiff, Nat.reduceBEq, Nat.reduceEqDiff, p1]
    refine ⟨by omega, by omega, (at_f (hrT _) spc_len htp1 (o := 0) (x := I (c.tlo t)) rfl fun ad1 => ?_).2.2⟩
    simp (config := { maxSteps := 4000000 }) only [↓sx0, ↓sx1, ↓sx2, ↓sx3, ↓sx4, ↓sx5, ↓sx6, sx0, sx1, sx2, sx3, sx4, sx5, sx6, tf7, ev3_hold, sxo, sxc, sxp, sxq, sxr, sxs, sxl, sxm, Int.reduceBEq, Int.reduceBNe, Int.reduceLT, Int.reduceLE, Int.reduceEq, Int.reduceGT, Int.reduceGE, Int.reduceToNat, ↓reduceIte, List.reduceReplicate, Nat.reduceAdd, Nat.reduceSub, Nat.reduceMul, Nat.reduceLT, Nat.reduceLeDiff, Nat.reduceBEq, Nat.reduceEqDiff, e0]
    refine ⟨by omega, by omega, (at_f (hrT _) spc_len htp1 (o := 1) (x := I (c.thi t)) rfl fun ad1 => ?_).2.2⟩
    simp (config := { maxSteps := 4000000 }) only [↓sx0, ↓sx1, ↓sx2, ↓sx3, ↓sx4, ↓sx5, ↓sx6, sx0, sx1, sx2, sx3, sx4, sx5, sx6, tf7, ev3_hold, sxo, sxc, sxp, sxq, sxr, sxs, sxl, sxm, Int.reduceBEq, Int.reduceBNe, Int.reduceLT, Int.reduceLE, Int.reduceEq, Int.reduceGT, Int.reduceGE, Int.reduceToNat, ↓reduceIte, List.reduceReplicate, Nat.reduceAdd, Nat.reduceSub, Nat.reduceMul, Nat.reduceLT, Nat.reduceLeDiff, Nat.reduceBEq, Nat.reduceEqDiff, e1]
    exact ⟨false, _, rfl, HImp.refl _ _, fun _ => ⟨q0, by omega, by omega⟩⟩
  rintro b H4 g4 hb
  cases b with
  | true =>
    refine ⟨?_⟩
    simp (config := { maxSteps := 4000000 }) only [↓sx0, ↓sx1, ↓sx2, ↓sx3, ↓sx4, ↓sx5, ↓sx6, sx0, sx1, sx2, sx3, sx4, sx5, sx6, tf7, ev3_hold, sxo, sxc, sxp, sxq, sxr, sxs, sxl, sxm, Int.reduceBEq, Int.reduceBNe, Int.reduceLT, Int.reduceLE, Int.reduceEq, Int.reduceGT, Int.reduceGE, Int.reduceToNat, ↓reduceIte, List.reduceReplicate, Nat.reduceAdd, Nat.reduceSub, Nat.reduceMul, Nat.reduceLT, Nat.reduceLeDiff, Nat.reduceBEq, Nat.reduceEqDiff, dn]
    refine CallOb.pureH (fun w' hp => hlv _ w' hp) ?_
    rintro q NN rfl
    refine ⟨?_⟩
    simp (config := { maxSteps := 4000000 }) only [↓sx0, ↓sx1, ↓sx2, ↓sx3, ↓sx4, ↓sx5, ↓sx6, sx0, sx1, sx2, sx3, sx4, sx5, sx6, tf7, ev3_hold, sxo, sxc, sxp, sxq, sxr, sxs, sxl, sxm, Int.reduceBEq, Int.reduceBNe, Int.reduceLT, Int.reduceLE, Int.reduceEq, Int.reduceGT, Int.reduceGE, Int.reduceToNat, ↓reduceIte, List.reduceReplicate, Nat.reduceAdd, Nat.reduceSub, Nat.reduceMul, Nat.reduceLT, Nat.reduceLeDiff, Nat.reduceBEq, Nat.reduceEqDiff]
  | false =>
  obtain ⟨q0, d0, d1⟩ := hb rfl
  obtain ⟨hn, hdr⟩ := (hh.resolve_left (by omega)).2
  obtain ⟨wv, hwv2⟩ : ∃ wv, c.over k t x2 = wv := ⟨_, rfl⟩
  have bv : wl ≤ wv ∧ wv ≤ wh := by
    have h1 := ho (c.tlo t)
    have h2 := ho (c.thi t)
    have h3 := ho x2
    omega
  have hkv := buoy_check (wt := wv) hB (by omega) (by omega)
  have okv := Tw.ok_of_check hkv
  have hov := fun (H : List HO) w' hp => hov hok k t hk ht x2 (by omega) H w' hp
  simp only [hwv2] at hov
  rw [← hx0, ← hx1] at hov
  have hdv : Tw.dryGo h m a s wv hi nh (a + 1).toNat 0 = true := (Tw.dry_all okv (wg := hi) (T := nh) ⟨by omega, by omega⟩ ⟨by omega, by omega⟩).2 fun j hj => gt_mono (by omega) bv.2 (by omega) j (hdr j hj)
  have hdy := fun w' => Tw.dry_fn w' h m a s lo hi wv hi nh ⟨by omega, by omega⟩
  simp only [hdv] at hdy
  refine ⟨?_⟩
  simp (config := { maxSteps := 4000000 }) only [↓sx0, ↓sx1, ↓sx2, ↓sx3, ↓sx4, ↓sx5, ↓sx6, sx0, sx1, sx2, sx3, sx4, sx5, sx6, tf7, ev3_hold, sxo, sxc, sxp, sxq, sxr, sxs, sxl, sxm, Int.reduceBEq, Int.reduceBNe, Int.reduceLT, Int.reduceLE, Int.reduceEq, Int.reduceGT, Int.reduceGE, Int.reduceToNat, ↓reduceIte, List.reduceReplicate, Nat.reduceAdd, Nat.reduceSub, Nat.reduceMul, Nat.reduceLT, Nat.reduceLeDiff, Nat.reduceBEq, Nat.reduceEqDiff, dn]
  refine CallOb.pureH (fun w' hp => hov _ w' hp) ?_
  rintro q N12 rfl
  refine ⟨?_⟩
  simp (config := { maxSteps := 4000000 }) only [↓sx0, ↓sx1, ↓sx2, ↓sx3, ↓sx4, ↓sx5, ↓sx6, sx0, sx1, sx2, sx3, sx4, sx5, sx6, tf7, ev3_hold, sxo, sxc, sxp, sxq, sxr, sxs, sxl, sxm, Int.reduceBEq, Int.reduceBNe, Int.reduceLT, Int.reduceLE, Int.reduceEq, Int.reduceGT, Int.reduceGE, Int.reduceToNat, ↓reduceIte, List.reduceReplicate, Nat.reduceAdd, Nat.reduceSub, Nat.reduceMul, Nat.reduceLT, Nat.reduceLeDiff, Nat.reduceBEq, Nat.reduceEqDiff, dn]
  refine CallOb.pureH (fun w' hp => hdy w') ?_
  rintro q N13 ⟨rfl, _⟩
  refine ⟨?_⟩
  simp (config := { maxSteps := 4000000 }) only [↓sx0, ↓sx1, ↓sx2, ↓sx3, ↓sx4, ↓sx5, ↓sx6, sx0, sx1, sx2, sx3, sx4, sx5, sx6, tf7, ev3_hold, sxo, sxc, sxp, sxq, sxr, sxs, sxl, sxm, Int.reduceBEq, Int.reduceBNe, Int.reduceLT, Int.reduceLE, Int.reduceEq, Int.reduceGT, Int.reduceGE, Int.reduceToNat, ↓reduceIte, List.reduceReplicate, Nat.reduceAdd, Nat.reduceSub, Nat.reduceMul, Nat.reduceLT, Nat.reduceLeDiff, Nat.reduceBEq, Nat.reduceEqDiff, dn]
  refine CallOb.pureH (fun w' hp => hlv _ w' hp) ?_
  rintro q N14 rfl
  refine ⟨?_⟩
  simp (config := { maxSteps := 4000000 }) only [↓sx0, ↓sx1, ↓sx2, ↓sx3, ↓sx4, ↓sx5, ↓sx6, sx0, sx1, sx2, sx3, sx4, sx5, sx6, tf7, ev3_hold, sxo, sxc, sxp, sxq, sxr, sxs, sxl, sxm, Int.reduceBEq, Int.reduceBNe, Int.reduceLT, Int.reduceLE, Int.reduceEq, Int.reduceGT, Int.reduceGE, Int.reduceToNat, ↓reduceIte, List.reduceReplicate, Nat.reduceAdd, Nat.reduceSub, Nat.reduceMul, Nat.reduceLT, Nat.reduceLeDiff, Nat.reduceBEq, Nat.reduceEqDiff]
end Go.Proofs.YtpmodggfogahhaaGreatDoor
