/- A part of a proof: the symbolic walk and what it shows of single functions. -/
import Derived.Test.YtpmodggfogahhaaGreatDoorT4
import Derived.Test.YtpmodggfogahhaaGreatDoorT4
import Derived.Test.YtpmodggfogahhaaGreatDoorT4
import Derived.Test.YtpmodggfogahhaaGreatDoorC5
import Derived.Test.YtpmodggfogahhaaGreatDoorC3
set_option linter.all false
namespace Go.Proofs.YtpmodggfogahhaaGreatDoor
open Go.RowKit Go.SX
set_option maxRecDepth 20000
set_option maxHeartbeats 0
set_option linter.unusedSimpArgs false
set_option linter.unusedVariables false
theorem topTowed_fn (w : World) (hw : Ways w) (v : Value) (c : Cht) (hc : ChOk w v c) (g x1 x2 x3 : Int) (vT : Value) (us : List Tw.Tw) (hT : Sl w vT 5 (Tw.twcs us)) (vh : Value) (hs : List Int) (hhs : Sl w vh 1 (ints hs)) :
    SX.Fn Tryz.prog 9 [v, .agg #[I g, I x1, I x2, I x3, vT], vh] w (fun _ => False) fun q N => q = .bool true := by
  have dn : ∀ (g : Nat) (xs : List Value), det0 g xs = none := fun _ _ => rfl
  have hlv := fun (H : List HO) w' (hp : Hp ⟨w, fun _ => False⟩ H w') => lives_fn w' (hw.hp hp)
  have hva := fun (H : List HO) w' (hp : Hp ⟨w, fun _ => False⟩ H w') => vast_fn w' v c (hc.hp hp)
  have hck := fun (hf : c.few) (H : List HO) w' (hp : Hp ⟨w, fun _ => False⟩ H w') => rcheck_fn w' v c (hc.hp hp) (few_small hf)
  have hwa := fun (hf : c.few) (k t : Int) (H : List HO) w' (hp : Hp ⟨w, fun _ => False⟩ H w') => water1_fn w' v c (hc.hp hp) (few_small hf) k t
  have hov := fun (hok : c.ok) (k t : Nat) (hk : k < c.depth.length) (ht : t < c.tide.length) (y : Int) (hy : -10000 ≤ y ∧ y ≤ 10000) (H : List HO) w' (hp : Hp ⟨w, fun _ => False⟩ H w') => over_fn w' v c (hc.hp hp) hok k t y hk ht hy
  have hpa := fun (hf : c.few) (H : List HO) w' (hp : Hp ⟨w, fun _ => False⟩ H w') => passage_fn w' (hw.hp hp) v c (hc.hp hp) (few_small hf) g x1 x2 x3
  have hT0 := fun (H : List HO) w' (hp : Hp ⟨w, fun _ => False⟩ H w') => Sl.hp (w0 := ⟨w, fun _ => False⟩) hT (fun _ _ => id) hp
  have hlo := fun (H : List HO) w' (hp : Hp ⟨w, fun _ => False⟩ H w') => Tw.long_fn w' vT us (hT0 H w' hp)
  have hsp := fun (d : Int) (H : List HO) w' (hp : Hp ⟨w, fun _ => False⟩ H w') => Tw.speeds_fn w' vT us d (hT0 H w' hp)
  obtain ⟨aU, nU, cU, rfl⟩ := hT.shape
  have hnU := hT.le (f := Tw.twc) Tw.twc_len (by omega)
  have hct := fun (H : List HO) w' (hp : Hp ⟨w, fun _ => False⟩ H w') => Tw.rcheck9_fn w' aU nU cU us (hT0 H w' hp) hnU
  have hid := fun w' => isDraught_fn w' g
  obtain ⟨sD, sT, sS, rfl, hD, hTi, hS⟩ := hc
  obtain ⟨aT, nT, cT, rfl⟩ := hTi.shape
  have hnT := hTi.le spc_len (by omega)
  subst hnT
  have hrT := fun H => hTi.rd0 H
  obtain ⟨aH, nH, cH, rfl⟩ := hhs.shape
  have hnH := hhs.le i1_len (by omega)
  subst hnH
  have hrH := fun H => hhs.rd0 H
  have hic := fun x w' => isCell_fn w' c.wide c.high x sD (.slice aT c.tide.length cT) sS
  have hit := fun w' => isTick_fn w' c.wide c.high x2 sD sS aT c.tide.length cT
  refine walkC [3, 47] [11] [(12, (ones [1, 2, 3, 4, 5, 7] (.ld 0 (.ld 6 (ones [8] (.pre 13 (ones [9, 10, 11, 12, 13] (.kl 14 (ones [15] .fin)))))))))] (det0_ok _ _) Tryz.func9 rfl Tryz.ntmps9 res9 (by kernel_rfl) no_facts ?_
  simp (config := { maxSteps := 4000000 }) only [↓sx0, ↓sx1, ↓sx2, ↓sx3, ↓sx4, ↓sx5, ↓sx6, sx0, sx1, sx2, sx3, sx4, sx5, sx6, tf9, ev3_hold, sxo, sxc, sxp, sxq, sxr, sxs, sxl, sxm, simprocAttr, dn]
  refine cut_constH [(22, 66)] (fun b : Bool => [(66, .bool b)]) (fun b H2 => b = false → c.few ∧ c.ok ∧ Tw.trainB us = true ∧ (1 ≤ g ∧ g ≤ 100) ∧ isCellB c.wide c.high x1 = true ∧ inB x2 0 (wr ((c.tide.length : Int) - 1)) = true ∧ isCellB c.wide c.high x3 = true) ?_ ?_
  · refine ⟨?_⟩
    simp (config := { maxSteps := 4000000 }) only [↓sx0, ↓sx1, ↓sx2, ↓sx3, ↓sx4, ↓sx5, ↓sx6, sx0, sx1, sx2, sx3, sx4, sx5, sx6, tf9, ev3_hold, sxo, sxc, sxp, sxq, sxr, sxs, sxl, sxm, simprocAttr, dn]
    refine CallOb.pureH (fun w' hp' => hva _ w' hp') ?_
    rintro q N ⟨bv, rfl, hbv⟩
    cases bv with
    | true =>
      refine ⟨?_⟩
      simp (config := { maxSteps := 4000000 }) only [↓sx0, ↓sx1, ↓sx2, ↓sx3, ↓sx4, ↓sx5, ↓sx6, sx0, sx1, sx2, sx3, sx4, sx5, sx6, tf9, ev3_hold, sxo, sxc, sxp, sxq, sxr, sxs, sxl, sxm, simprocAttr, dn]
      exact ⟨true, _, rfl, HImp.refl _ _, fun h => by cases h⟩
    | false =>
    have hf := (hbv rfl).1
    have hck := hck hf
    refine ⟨?_⟩
    simp (config := { maxSteps := 4000000 }) only [↓sx0, ↓sx1, ↓sx2, ↓sx3, ↓sx4, ↓sx5, ↓sx6, sx0, sx1, sx2, sx3, sx4, sx5, sx6, tf9, ev3_hold, sxo, sxc, sxp, sxq, sxr, sxs, sxl, sxm, simprocAttr, dn]
    refine CallOb.pureH (fun w' hp' => hck _ w' hp') ?_
    rintro q N2 rfl
    by_cases hok : c.ok
    case neg =>
      have hkb : c.okB = false := by
        cases hk : c.okB with
        | false => rfl
        | true => exact absurd ((okB_iff c).1 hk) hok
      have z1 : ((if c.okB = true then (0 : Int) else 10) = 0) = False := eq_false (by rw [hkb]; simp)
      refine ⟨?_⟩
      simp (config := { maxSteps := 4000000 }) only [↓sx0, ↓sx1, ↓sx2, ↓sx3, ↓sx4, ↓sx5, ↓sx6, sx0, sx1, sx2, sx3, sx4, sx5, sx6, tf9, ev3_hold, sxo, sxc, sxp, sxq, sxr, sxs, sxl, sxm, simprocAttr, z1, dn]
      exact ⟨true, _, rfl, HImp.refl _ _, fun h => by cases h⟩
    have hkb : c.okB = true := (okB_iff c).2 hok
    have z1 : ((if c.okB = true then (0 : Int) else 10) = 0) = True := eq_true (by rw [hkb]; simp)
    refine ⟨?_⟩
    simp (config := { maxSteps := 4000000 }) only [↓sx0, ↓sx1, ↓sx2, ↓sx3, ↓sx4, ↓sx5, ↓sx6, sx0, sx1, sx2, sx3, sx4, sx5, sx6, tf9, ev3_hold, sxo, sxc, sxp, sxq, sxr, sxs, sxl, sxm, simprocAttr, z1, dn]
    refine CallOb.pureH (fun w' hp => hlo _ w' hp) ?_
    rintro q N3 rfl
    cases hB : Tw.longB us with
    | true =>
      refine ⟨?_⟩
      simp (config := { maxSteps := 4000000 }) only [↓sx0, ↓sx1, ↓sx2, ↓sx3, ↓sx4, ↓sx5, ↓sx6, sx0, sx1, sx2, sx3, sx4, sx5, sx6, tf9, ev3_hold, sxo, sxc, sxp, sxq, sxr, sxs, sxl, sxm, simprocAttr, dn]
      exact ⟨true, _, rfl, HImp.refl _ _, fun h => by cases h⟩
    | false =>
    refine ⟨?_⟩
    simp (config := { maxSteps := 4000000 }) only [↓sx0, ↓sx1, ↓sx2, ↓sx3, ↓sx4, ↓sx5, ↓sx6, sx0, sx1, sx2, sx3, sx4, sx5, sx6, tf9, ev3_hold, sxo, sxc, sxp, sxq, sxr, sxs, sxl, sxm, simprocAttr, dn]
    refine CallOb.pureH (fun w' hp => hct _ w' hp) ?_
    rintro q N4 rfl
    cases hTB : Tw.trainB us with
    | false =>
      refine ⟨?_⟩
      simp (config := { maxSteps := 4000000 }) only [↓sx0, ↓sx1, ↓sx2, ↓sx3, ↓sx4, ↓sx5, ↓sx6, sx0, sx1, sx2, sx3, sx4, sx5, sx6, tf9, ev3_hold, sxo, sxc, sxp, sxq, sxr, sxs, sxl, sxm, simprocAttr, dn]
      exact ⟨true, _, rfl, HImp.refl _ _, fun h => by cases h⟩
    | true =>
    refine ⟨?_⟩
    simp (config := { maxSteps := 4000000 }) only [↓sx0, ↓sx1, ↓sx2, ↓sx3, ↓sx4, ↓sx5, ↓sx6, sx0, sx1, sx2, sx3, sx4, sx5, sx6, tf9, ev3_hold, sxo, sxc, sxp, sxq, sxr, sxs, sxl, sxm, simprocAttr, dn]
    refine CallOb.pureH (fun w' hp => hid w') ?_
    rintro q N5 rfl
    cases hG : inB g 1 100 with
    | false =>
      refine ⟨?_⟩
      simp (config := { maxSteps := 4000000 }) only [↓sx0, ↓sx1, ↓sx2, ↓sx3, ↓sx4, ↓sx5, ↓sx6, sx0, sx1, sx2, sx3, sx4, sx5, sx6, tf9, ev3_hold, sxo, sxc, sxp, sxq, sxr, sxs, sxl, sxm, simprocAttr, dn]
      exact ⟨true, _, rfl, HImp.refl _ _, fun h => by cases h⟩
    | true =>
    refine ⟨?_⟩
    simp (config := { maxSteps := 4000000 }) only [↓sx0, ↓sx1, ↓sx2, ↓sx3, ↓sx4, ↓sx5, ↓sx6, sx0, sx1, sx2, sx3, sx4, sx5, sx6, tf9, ev3_hold, sxo, sxc, sxp, sxq, sxr, sxs, sxl, sxm, simprocAttr, dn]
    refine CallOb.pureH (fun w' hp => hic _ w') ?_
    rintro q N6 rfl
    cases hC : isCellB c.wide c.high x1 with
    | false =>
      refine ⟨?_⟩
      simp (config := { maxSteps := 4000000 }) only [↓sx0, ↓sx1, ↓sx2, ↓sx3, ↓sx4, ↓sx5, ↓sx6, sx0, sx1, sx2, sx3, sx4, sx5, sx6, tf9, ev3_hold, sxo, sxc, sxp, sxq, sxr, sxs, sxl, sxm, simprocAttr, dn]
      exact ⟨true, _, rfl, HImp.refl _ _, fun h => by cases h⟩
    | true =>
    refine ⟨?_⟩
    simp (config := { maxSteps := 4000000 }) only [↓sx0, ↓sx1, ↓sx2, ↓sx3, ↓sx4, ↓sx5, ↓sx6, sx0, sx1, sx2, sx3, sx4, sx5, sx6, tf9, ev3_hold, sxo, sxc, sxp, sxq, sxr, sxs, sxl, sxm, simprocAttr, dn]
    refine CallOb.pureH (fun w' hp => hit w') ?_
    rintro q N7 rfl
    cases hTk : inB x2 0 (wr ((c.tide.length : Int) - 1)) with
    | false =>
      refine ⟨?_⟩
      simp (config := { maxSteps := 4000000 }) only [↓sx0, ↓sx1, ↓sx2, ↓sx3, ↓sx4, ↓sx5, ↓sx6, sx0, sx1, sx2, sx3, sx4, sx5, sx6, tf9, ev3_hold, sxo, sxc, sxp, sxq, sxr, sxs, sxl, sxm, simprocAttr, dn]
      exact ⟨true, _, rfl, HImp.refl _ _, fun h => by cases h⟩
    | true =>
    refine ⟨?_⟩
    simp (config := { maxSteps := 4000000 }) only [↓sx0, ↓sx1, ↓sx2, ↓sx3, ↓sx4, ↓sx5, ↓sx6, sx0, sx1, sx2, sx3, sx4, sx5, sx6, tf9, ev3_hold, sxo, sxc, sxp, sxq, sxr, sxs, sxl, sxm, simprocAttr, dn]
    refine CallOb.pureH (fun w' hp => hic _ w') ?_
    rintro q N8 rfl
    cases hC3 : isCellB c.wide c.high x3 with
    | false =>
      refine ⟨?_⟩
      simp (config := { maxSteps := 4000000 }) only [↓sx0, ↓sx1, ↓sx2, ↓sx3, ↓sx4, ↓sx5, ↓sx6, sx0, sx1, sx2, sx3, sx4, sx5, sx6, tf9, ev3_hold, sxo, sxc, sxp, sxq, sxr, sxs, sxl, sxm, simprocAttr, dn]
      exact ⟨true, _, rfl, HImp.refl _ _, fun h => by cases h⟩
    | true =>
    have hG2 := (inB_iff _ _ _).1 hG
    refine ⟨?_⟩
    simp (config := { maxSteps := 4000000 }) only [↓sx0, ↓sx1, ↓sx2, ↓sx3, ↓sx4, ↓sx5, ↓sx6, sx0, sx1, sx2, sx3, sx4, sx5, sx6, tf9, ev3_hold, sxo, sxc, sxp, sxq, sxr, sxs, sxl, sxm, simprocAttr, dn]
    exact ⟨false, _, rfl, HImp.refl _ _, fun _ => ⟨hf, hok, hG2.1, hG2.2⟩⟩
  rintro b H2 g2 hb
  cases b with
  | true =>
    refine ⟨?_⟩
    simp (config := { maxSteps := 4000000 }) only [↓sx0, ↓sx1, ↓sx2, ↓sx3, ↓sx4, ↓sx5, ↓sx6, sx0, sx1, sx2, sx3, sx4, sx5, sx6, tf9, ev3_hold, sxo, sxc, sxp, sxq, sxr, sxs, sxl, sxm, simprocAttr, dn]
    refine CallOb.pureH (fun w' hp => hlv _ w' hp) ?_
    rintro q NN rfl
    refine ⟨?_⟩
    simp (config := { maxSteps := 4000000 }) only [↓sx0, ↓sx1, ↓sx2, ↓sx3, ↓sx4, ↓sx5, ↓sx6, sx0, sx1, sx2, sx3, sx4, sx5, sx6, tf9, ev3_hold, sxo, sxc, sxp, sxq, sxr, sxs, sxl, sxm, simprocAttr]
  | false =>
  obtain ⟨hf, hok, hTB, hG, hC, hTk, hC3⟩ := hb rfl
  have hkb : c.okB = true := (okB_iff c).2 hok
  have hT1 := hok.2.2.2.1
  rw [isCell_iff hok] at hC hC3
  have hnc : notCell c x1 = false := by simpa using hC
  have hnc3 : notCell c x3 = false := by simpa using hC3
  obtain ⟨A, hA, hAn⟩ := cell_of hnc
  obtain ⟨B, hB, hBn⟩ := cell_of hnc3
  have eT : wr ((c.tide.length : Int) - 1) = (c.tide.length : Int) - 1 := wrap_id (by omega)
  rw [eT, inB_iff] at hTk
  obtain ⟨t, hx2⟩ : ∃ t : Nat, x2 = t := ⟨x2.toNat, by omega⟩
  have ht : t < c.tide.length := by omega
  have hop : openE c [x1, x3] [x2] [g] = 0 := by
    have h1 : notTick c x2 = false := by
      unfold notTick
      rw [Bool.not_eq_false', inB_iff]
      omega
    have h2 : notDraught g = false := by
      unfold notDraught
      rw [Bool.not_eq_false', inB_iff]
      omega
    unfold openE
    rw [hkb, if_pos rfl]
    simp [hnc, hnc3, h1, h2]
  have e1 : x1.toNat = A := by omega
  have e2 : x2.toNat = t := by omega
  have e3 : x3.toNat = B := by omega
  have hpa := hpa hf
  rw [hop, e1, e2, e3] at hpa
  have z0 : ((0 : Int) = 0) = True := eq_true rfl
  refine ⟨?_⟩
  simp (config := { maxSteps := 4000000 }) only [↓sx0, ↓sx1, ↓sx2, ↓sx3, ↓sx4, ↓sx5, ↓sx6, sx0, sx1, sx2, sx3, sx4, sx5, sx6, tf9, ev3_hold, sxo, sxc, sxp, sxq, sxr, sxs, sxl, sxm, simprocAttr, dn]
  refine CallOb.pureH (fun w' hp => hpa _ w' hp) ?_
  rintro q N9 (⟨h0, _⟩ | ⟨_, ⟨i, x, hi, hin, _, rfl, hrow⟩ | ⟨_, rfl⟩⟩)
  · exact absurd rfl h0
  case inr.inr =>
    refine ⟨?_⟩
    simp (config := { maxSteps := 4000000 }) only [↓sx0, ↓sx1, ↓sx2, ↓sx3, ↓sx4, ↓sx5, ↓sx6, sx0, sx1, sx2, sx3, sx4, sx5, sx6, tf9, ev3_hold, sxo, sxc, sxp, sxq, sxr, sxs, sxl, sxm, simprocAttr, dn]
    refine CallOb.pureH (fun w' hp => hlv _ w' hp) ?_
    rintro q NN rfl
    refine ⟨?_⟩
    simp (config := { maxSteps := 4000000 }) only [↓sx0, ↓sx1, ↓sx2, ↓sx3, ↓sx4, ↓sx5, ↓sx6, sx0, sx1, sx2, sx3, sx4, sx5, sx6, tf9, ev3_hold, sxo, sxc, sxp, sxq, sxr, sxs, sxl, sxm, simprocAttr]
  have hfl := pth_flt hok hBn hin
  have hPl := pth_len c (setL c g A t (i + 1)) B i
  obtain ⟨P, hP⟩ : ∃ P, pth c (setL c g A t (i + 1)) B i = P := ⟨_, rfl⟩
  rw [hP] at hPl hrow
  simp only [hP] at hfl
  have hPn : ∀ k, k < i + 1 → (nts P)[k]? = some ((P.getD k 0 : Nat) : Int) := fun k hk => by
    unfold nts
    rw [List.getElem?_map, List.getD_eq_getElem?_getD, List.getElem?_eq_getElem (by omega)]
    rfl
  have hrP : ∀ H : List HO, (∀ h ∈ N9, h ∈ H) → Rdv ⟨w, fun _ => False⟩ H (.slice (some ⟨x, 0, none⟩) (i + 1) (i + 1)) 1 (ints (nts P)) := fun H hm => row_rdv (hm _ hrow) ⟨_, _, _, rfl, by
    rw [cat_len i1_len]
    unfold nts
    rw [List.length_map, hPl], fun h => by cases h⟩
  obtain ⟨f, hff⟩ : ∃ f : Nat → Int, ∀ k, c.over (P.getD k 0) (t + k) (c.tlo (t + k)) = f k := ⟨_, fun _ => rfl⟩
  obtain ⟨p, hp⟩ : ∃ p : Nat → Nat, ∀ k, P.getD k 0 = p k := ⟨_, fun _ => rfl⟩
  simp only [hp] at hff hPn hfl
  have hbn : ∀ k, k < i + 1 → p k < c.depth.length ∧ t + k < c.tide.length ∧ g ≤ f k := fun k hk => by
    obtain ⟨h1, h2⟩ := hfl k (by omega)
    refine ⟨h1, by omega, ?_⟩
    unfold Cht.flt at h2
    rw [hff] at h2
    exact of_decide_eq_true h2
  have hwv : ∀ k, k < i + 1 → waterV c (p k : Nat) ((t + k : Nat) : Int) = .tuple #[.agg #[I (f k), I (c.over (p k) (t + k) (c.thi (t + k)))], I 0] := fun k hk => by
    obtain ⟨h1, h2, _⟩ := hbn k hk
    have n1 : notCell c (p k : Nat) = false := by
      unfold notCell
      rw [Bool.not_eq_false', inB_iff]
      omega
    have n2 : notTick c ((t + k : Nat) : Int) = false := by
      unfold notTick
      rw [Bool.not_eq_false', inB_iff]
      omega
    have n2 : notTick c ((t : Int) + (k : Int)) = false := by simpa using n2
    have n3 : openE c [((p k : Nat) : Int)] [((t + k : Nat) : Int)] [] = 0 := by
      unfold openE
      rw [hkb, if_pos rfl]
      simp [n1, n2]
    unfold waterV
    rw [if_pos n3, Int.toNat_natCast, Int.toNat_natCast, hff]
    rfl
  have hD1 := fun n => minS_le (f := f) (n := n)
  have hD2 := fun n => minS_ge (f := f) (b := 1) (by omega) (n := n)
  have hD0 : minS f 0 = 1000 := rfl
  have hDs : ∀ k, min (minS f k) (f k) = minS f (k + 1) := fun _ => rfl
  obtain ⟨D, hD⟩ : ∃ D, minS f = D := ⟨_, rfl⟩
  rw [hD] at hD0 hDs
  simp only [hD] at hD1 hD2
  have r1 : (wr (x2 + ((i + 1 : Nat) : Int)) > (c.tide.length : Int)) = False := eq_false (by
    have : wr (x2 + ((i + 1 : Nat) : Int)) = x2 + ((i + 1 : Nat) : Int) := wrap_id (by omega)
    omega)
  refine ⟨?_⟩
  simp (config := { maxSteps := 4000000 }) only [↓sx0, ↓sx1, ↓sx2, ↓sx3, ↓sx4, ↓sx5, ↓sx6, sx0, sx1, sx2, sx3, sx4, sx5, sx6, tf9, ev3_hold, sxo, sxc, sxp, sxq, sxr, sxs, sxl, sxm, simprocAttr, z0, r1]
  refine loop_constH _ (HImp.refl _ _) [(6, 6), (9, 12), (97, 128)] (fun k : Nat => [(9, I (D k)), (10, I k)]) (fun k H1 => k ≤ i + 1 ∧ ∀ h ∈ N9, h ∈ H1) (fun k => i + 1 - k) 0 ?_ ⟨Nat.zero_le _, fun h hh => by simp [hh]⟩ ?_
  · simp (config := { maxSteps := 4000000 }) only [↓sx0, ↓sx1, ↓sx2, ↓sx3, ↓sx4, ↓sx5, ↓sx6, sx0, sx1, sx2, sx3, sx4, sx5, sx6, tf9, ev3_hold, sxo, sxc, sxp, sxq, sxr, sxs, sxl, sxm, simprocAttr, hD0]
    try simp
  rintro k H1 g1 ⟨hk, hN⟩
  by_cases hkn : k = i + 1
  case neg =>
    have e7 : ((k : Int) < ((i + 1 : Nat) : Int)) = True := eq_true (by omega)
    have e8 : wr (k + 1) = ((k + 1 : Nat) : Int) := (wrap_id (by omega)).trans (by omega)
    obtain ⟨hk1, hk2, hk3⟩ := hbn k (by omega)
    have hPk := hPn k (by omega)
    have hwk := hwa hf (p k : Nat) ((t + k : Nat) : Int)
    rw [hwv k (by omega)] at hwk
    have e9 : wr (x2 + (k : Int)) = ((t + k : Nat) : Int) := (wrap_id (by omega)).trans (by omega)
    have f1 : (f k < g) = False := eq_false (by omega)
    have hDk := hDs k
    refine ⟨?_⟩
    simp (config := { maxSteps := 4000000 }) only [↓sx0, ↓sx1, ↓sx2, ↓sx3, ↓sx4, ↓sx5, ↓sx6, sx0, sx1, sx2, sx3, sx4, sx5, sx6, tf9, ev3_hold, sxo, sxc, sxp, sxq, sxr, sxs, sxl, sxm, simprocAttr, e7, e9]
    refine amid (at_1 (hrP _ (fun h hh => by simp [hN h hh])) i1_len hPk rfl fun ad1 => ?_)
    simp (config := { maxSteps := 4000000 }) only [↓sx0, ↓sx1, ↓sx2, ↓sx3, ↓sx4, ↓sx5, ↓sx6, sx0, sx1, sx2, sx3, sx4, sx5, sx6, tf9, ev3_hold, sxo, sxc, sxp, sxq, sxr, sxs, sxl, sxm, simprocAttr, e9, dn]
    refine CallOb.pureH (fun w' hp => hwk _ w' hp) ?_
    rintro q N10 rfl
    refine ⟨?_⟩
    simp (config := { maxSteps := 4000000 }) only [↓sx0, ↓sx1, ↓sx2, ↓sx3, ↓sx4, ↓sx5, ↓sx6, sx0, sx1, sx2, sx3, sx4, sx5, sx6, tf9, ev3_hold, sxo, sxc, sxp, sxq, sxr, sxs, sxl, sxm, simprocAttr, z0]
    intro bx
    refine wr_cell (A := []) rfl (by simp) ?_
    simp (config := { maxSteps := 4000000 }) only [↓sx0, ↓sx1, ↓sx2, ↓sx3, ↓sx4, ↓sx5, ↓sx6, sx0, sx1, sx2, sx3, sx4, sx5, sx6, tf9, ev3_hold, sxo, sxc, sxp, sxq, sxr, sxs, sxl, sxm, simprocAttr]
    refine ld_cellz rfl List.mem_cons_self rfl ?_
    simp (config := { maxSteps := 4000000 }) only [↓sx0, ↓sx1, ↓sx2, ↓sx3, ↓sx4, ↓sx5, ↓sx6, sx0, sx1, sx2, sx3, sx4, sx5, sx6, tf9, ev3_hold, sxo, sxc, sxp, sxq, sxr, sxs, sxl, sxm, simprocAttr, f1]
    refine ld_cellz rfl List.mem_cons_self rfl ?_
    simp (config := { maxSteps := 4000000 }) only [↓sx0, ↓sx1, ↓sx2, ↓sx3, ↓sx4, ↓sx5, ↓sx6, sx0, sx1, sx2, sx3, sx4, sx5, sx6, tf9, ev3_hold, sxo, sxc, sxp, sxq, sxr, sxs, sxl, sxm, simprocAttr, hDk, e8]
    exact ⟨k + 1, _, ⟨rfl, rfl⟩, HImp.refl _ _, ⟨by omega, fun h hh => by simp [hN h hh]⟩, by omega⟩
  have e7 : ((k : Int) < ((i + 1 : Nat) : Int)) = False := eq_false (by omega)
  have hdk1 : 1 ≤ D k := hD2 k fun j hj => by
    have := (hbn j (by omega)).2.2
    omega
  obtain ⟨hdk2, hdk3⟩ := hD1 k
  have hok9 : Tw.okT us := (Tw.train_iff us).1 hTB
  have hE9 : ∀ d : Int, 0 ≤ d → d ≤ 1000 → Tw.speedsE us d = 0 := fun d h1 h2 => by
    unfold Tw.speedsE
    rw [hTB, if_pos rfl, if_pos (by unfold Tw.inB; simp; omega)]
  have hR9 : ∀ d : Int, 0 ≤ d → d ≤ 1000 → Tw.sureR us d = Tw.sureF us d := fun d h1 h2 => by
    unfold Tw.sureR
    rw [if_pos (hE9 d h1 h2)]
  have hsD := hsp (D k)
  rw [hE9 (D k) (by omega) (by omega), hR9 (D k) (by omega) (by omega)] at hsD
  have hSl : (Tw.sureF us (D k)).length ≤ 1000000 := by
    have := Tw.upTo_len (fun v => Tw.sureL v (D k) us) 20
    unfold Tw.sureF
    omega
  have hsub : ∀ dd : Int, D k ≤ dd → dd ≤ 1000 → ∀ s ∈ Tw.sureF us (D k), s ∈ Tw.sureF us dd := fun dd h1 h2 s hs => by
    have h3 := Tw.deeper_sub (d := D k) (x := dd - D k) ⟨by omega, by omega⟩ (by omega) (by omega) hok9
    have h4 := List.all_eq_true.1 h3 s hs
    rw [show D k + (dd - D k) = dd by omega] at h4
    exact of_decide_eq_true h4
  obtain ⟨S0, hS0⟩ : ∃ S0, Tw.sureF us (D k) = S0 := ⟨_, rfl⟩
  rw [hS0] at hsD hSl
  simp only [hS0] at hsub
  refine ⟨?_⟩
  simp (config := { maxSteps := 4000000 }) only [↓sx0, ↓sx1, ↓sx2, ↓sx3, ↓sx4, ↓sx5, ↓sx6, sx0, sx1, sx2, sx3, sx4, sx5, sx6, tf9, ev3_hold, sxo, sxc, sxp, sxq, sxr, sxs, sxl, sxm, simprocAttr, e7, dn]
  refine CallOb.pureH (fun w' hp => hsD _ w' hp) ?_
  rintro q N11 ⟨vx, vy, rfl, hGx, hGy⟩
  obtain ⟨av, cv, rfl⟩ := hGx.shape
  refine ⟨?_⟩
  simp (config := { maxSteps := 4000000 }) only [↓sx0, ↓sx1, ↓sx2, ↓sx3, ↓sx4, ↓sx5, ↓sx6, sx0, sx1, sx2, sx3, sx4, sx5, sx6, tf9, ev3_hold, sxo, sxc, sxp, sxq, sxr, sxs, sxl, sxm, simprocAttr, z0]
  refine loop_constH _ (HImp.refl _ _) [(6, 6), (16, 21), (139, 214)] (fun m : Nat => [(16, I m)]) (fun m H3 => m ≤ i + 1 ∧ (∀ h ∈ N9, h ∈ H3) ∧ ∀ h ∈ N11, h ∈ H3) (fun m => i + 1 - m) 0 ?_ ⟨Nat.zero_le _, fun h hh => by simp [hN h hh], fun h hh => by simp [hh]⟩ ?_
  · simp (config := { maxSteps := 4000000 }) only [↓sx0, ↓sx1, ↓sx2, ↓sx3, ↓sx4, ↓sx5, ↓sx6, sx0, sx1, sx2, sx3, sx4, sx5, sx6, tf9, ev3_hold, sxo, sxc, sxp, sxq, sxr, sxs, sxl, sxm, simprocAttr]
    try simp
  rintro m H3 g3 ⟨hm, hN3, hN4⟩
  by_cases hmn : m = i + 1
  · have f7 : ((m : Int) < ((i + 1 : Nat) : Int)) = False := eq_false (by omega)
    refine ⟨?_⟩
    simp (config := { maxSteps := 4000000 }) only [↓sx0, ↓sx1, ↓sx2, ↓sx3, ↓sx4, ↓sx5, ↓sx6, sx0, sx1, sx2, sx3, sx4, sx5, sx6, tf9, ev3_hold, sxo, sxc, sxp, sxq, sxr, sxs, sxl, sxm, simprocAttr, f7, dn]
    refine CallOb.pureH (fun w' hp => hlv _ w' hp) ?_
    rintro q NN rfl
    refine ⟨?_⟩
    simp (config := { maxSteps := 4000000 }) only [↓sx0, ↓sx1, ↓sx2, ↓sx3, ↓sx4, ↓sx5, ↓sx6, sx0, sx1, sx2, sx3, sx4, sx5, sx6, tf9, ev3_hold, sxo, sxc, sxp, sxq, sxr, sxs, sxl, sxm, simprocAttr]
  have f7 : ((m : Int) < ((i + 1 : Nat) : Int)) = True := eq_true (by omega)
  have f8 : wr (m + 1) = ((m + 1 : Nat) : Int) := (wrap_id (by omega)).trans (by omega)
  have f9 : wr (x2 + (m : Int)) = ((t + m : Nat) : Int) := (wrap_id (by omega)).trans (by omega)
  obtain ⟨hm1, hm2, hm3⟩ := hbn m (by omega)
  have hPm := hPn m (by omega)
  have htp := getD_at hm2 (0, 0)
  have htl : c.tlo (t + m) = (c.tide.getD (t + m) (0, 0)).1 := rfl
  have hth : c.thi (t + m) = (c.tide.getD (t + m) (0, 0)).2 := rfl
  have hlim := hok.2.2.2.2.2.2.1 _ (List.mem_of_getElem? htp)
  refine ⟨?_⟩
  simp (config := { maxSteps := 4000000 }) only [↓sx0, ↓sx1, ↓sx2, ↓sx3, ↓sx4, ↓sx5, ↓sx6, sx0, sx1, sx2, sx3, sx4, sx5, sx6, tf9, ev3_hold, sxo, sxc, sxp, sxq, sxr, sxs, sxl, sxm, simprocAttr, f7, f9]
  refine cut_constH [(149, 180)] (fun b : Bool => [(180, .bool b)]) (fun b H4 => (∀ h ∈ N9, h ∈ H4) ∧ (∀ h ∈ N11, h ∈ H4) ∧ (b = false → ∃ y, hs[t + m]? = some y ∧ c.tlo (t + m) ≤ y ∧ y ≤ c.thi (t + m))) ?_ ?_
  · by_cases hll : (hs.length : Int) = (c.tide.length : Int)
    case neg =>
      have p1 : ((hs.length : Int) = (c.tide.length : Int)) = False := eq_false hll
      refine ⟨?_⟩
      simp (config := { maxSteps := 4000000 }) only [↓sx0, ↓sx1, ↓sx2, ↓sx3, ↓sx4, ↓sx5, ↓sx6, sx0, sx1, sx2, sx3, sx4, sx5, sx6, tf9, ev3_hold, sxo, sxc, sxp, sxq, sxr, sxs, sxl, sxm, simprocAttr, p1]
      exact ⟨true, _, rfl, HImp.refl _ _, fun h hh => by simp [hN3 h hh], fun h hh => by simp [hN4 h hh], fun h => by cases h⟩
    have p1 : ((hs.length : Int) = (c.tide.length : Int)) = True := eq_true hll
    obtain ⟨y, hy⟩ : ∃ y, hs[t + m]? = some y := ⟨_, List.getElem?_eq_getElem (by omega)⟩
    by_cases d0 : y < c.tlo (t + m)
    · have q0 : (y < c.tlo (t + m)) = True := eq_true d0
      refine ⟨?_⟩
      simp (config := { maxSteps := 4000000 }) only [↓sx0, ↓sx1, ↓sx2, ↓sx3, ↓sx4, ↓sx5, ↓sx6, sx0, sx1, sx2, sx3, sx4, sx5, sx6, tf9, ev3_hold, sxo, sxc, sxp, sxq, sxr, sxs, sxl, sxm, simprocAttr, p1]
      refine at_1 (hrH _) i1_len hy rfl fun ad1 => ?_
      simp (config := { maxSteps := 4000000 }) only [↓sx0, ↓sx1, ↓sx2, ↓sx3, ↓sx4, ↓sx5, ↓sx6, sx0, sx1, sx2, sx3, sx4, sx5, sx6, tf9, ev3_hold, sxo, sxc, sxp, sxq, sxr, sxs, sxl, sxm, simprocAttr]
      refine at_f (hrT _) spc_len htp (o := 0) (x := I (c.tlo (t + m))) rfl fun ad2 => ?_
      simp (config := { maxSteps := 4000000 }) only [↓sx0, ↓sx1, ↓sx2, ↓sx3, ↓sx4, ↓sx5, ↓sx6, sx0, sx1, sx2, sx3, sx4, sx5, sx6, tf9, ev3_hold, sxo, sxc, sxp, sxq, sxr, sxs, sxl, sxm, simprocAttr, q0]
      exact ⟨true, _, rfl, HImp.refl _ _, fun h hh => by simp [hN3 h hh], fun h hh => by simp [hN4 h hh], fun h => by cases h⟩
    have q0 : (y < c.tlo (t + m)) = False := eq_false d0
    by_cases d1 : y > c.thi (t + m)
    · have q1 : (y > c.thi (t + m)) = True := eq_true d1
      refine ⟨?_⟩
      simp (config := { maxSteps := 4000000 }) only [↓sx0, ↓sx1, ↓sx2, ↓sx3, ↓sx4, ↓sx5, ↓sx6, sx0, sx1, sx2, sx3, sx4, sx5, sx6, tf9, ev3_hold, sxo, sxc, sxp, sxq, sxr, sxs, sxl, sxm, simprocAttr, p1]
      refine at_1 (hrH _) i1_len hy rfl fun ad1 => ?_
      simp (config := { maxSteps := 4000000 }) only [↓sx0, ↓sx1, ↓sx2, ↓sx3, ↓sx4, ↓sx5, ↓sx6, sx0, sx1, sx2, sx3, sx4, sx5, sx6, tf9, ev3_hold, sxo, sxc, sxp, sxq, sxr, sxs, sxl, sxm, simprocAttr]
      refine at_f (hrT _) spc_len htp (o := 0) (x := I (c.tlo (t + m))) rfl fun ad2 => ?_
      simp (config := { maxSteps := 4000000 }) only [↓sx0, ↓sx1, ↓sx2, ↓sx3, ↓sx4, ↓sx5, ↓sx6, sx0, sx1, sx2, sx3, sx4, sx5, sx6, tf9, ev3_hold, sxo, sxc, sxp, sxq, sxr, sxs, sxl, sxm, simprocAttr, q0]
      refine at_1 (hrH _) i1_len hy rfl fun ad1 => ?_
      simp (config := { maxSteps := 4000000 }) only [↓sx0, ↓sx1, ↓sx2, ↓sx3, ↓sx4, ↓sx5, ↓sx6, sx0, sx1, sx2, sx3, sx4, sx5, sx6, tf9, ev3_hold, sxo, sxc, sxp, sxq, sxr, sxs, sxl, sxm, simprocAttr]
      refine at_f (hrT _) spc_len htp (o := 1) (x := I (c.thi (t + m))) rfl fun ad2 => ?_
      simp (config := { maxSteps := 4000000 }) only [↓sx0, ↓sx1, ↓sx2, ↓sx3, ↓sx4, ↓sx5, ↓sx6, sx0, sx1, sx2, sx3, sx4, sx5, sx6, tf9, ev3_hold, sxo, sxc, sxp, sxq, sxr, sxs, sxl, sxm, simprocAttr, q1]
      exact ⟨true, _, rfl, HImp.refl _ _, fun h hh => by simp [hN3 h hh], fun h hh => by simp [hN4 h hh], fun h => by cases h⟩
    have q1 : (y > c.thi (t + m)) = False := eq_false d1
    refine ⟨?_⟩
    simp (config := { maxSteps := 4000000 }) only [↓sx0, ↓sx1, ↓sx2, ↓sx3, ↓sx4, ↓sx5, ↓sx6, sx0, sx1, sx2, sx3, sx4, sx5, sx6, tf9, ev3_hold, sxo, sxc, sxp, sxq, sxr, sxs, sxl, sxm, simprocAttr, p1]
    refine at_1 (hrH _) i1_len hy rfl fun ad1 => ?_
    simp (config := { maxSteps := 4000000 }) only [↓sx0, ↓sx1, ↓sx2, ↓sx3, ↓sx4, ↓sx5, ↓sx6, sx0, sx1, sx2, sx3, sx4, sx5, sx6, tf9, ev3_hold, sxo, sxc, sxp, sxq, sxr, sxs, sxl, sxm, simprocAttr]
    refine at_f (hrT _) spc_len htp (o := 0) (x := I (c.tlo (t + m))) rfl fun ad2 => ?_
    simp (config := { maxSteps := 4000000 }) only [↓sx0, ↓sx1, ↓sx2, ↓sx3, ↓sx4, ↓sx5, ↓sx6, sx0, sx1, sx2, sx3, sx4, sx5, sx6, tf9, ev3_hold, sxo, sxc, sxp, sxq, sxr, sxs, sxl, sxm, simprocAttr, q0]
    refine at_1 (hrH _) i1_len hy rfl fun ad1 => ?_
    simp (config := { maxSteps := 4000000 }) only [↓sx0, ↓sx1, ↓sx2, ↓sx3, ↓sx4, ↓sx5, ↓sx6, sx0, sx1, sx2, sx3, sx4, sx5, sx6, tf9, ev3_hold, sxo, sxc, sxp, sxq, sxr, sxs, sxl, sxm, simprocAttr]
    refine at_f (hrT _) spc_len htp (o := 1) (x := I (c.thi (t + m))) rfl fun ad2 => ?_
    simp (config := { maxSteps := 4000000 }) only [↓sx0, ↓sx1, ↓sx2, ↓sx3, ↓sx4, ↓sx5, ↓sx6, sx0, sx1, sx2, sx3, sx4, sx5, sx6, tf9, ev3_hold, sxo, sxc, sxp, sxq, sxr, sxs, sxl, sxm, simprocAttr, q1]
    exact ⟨false, _, rfl, HImp.refl _ _, fun h hh => by simp [hN3 h hh], fun h hh => by simp [hN4 h hh], fun _ => ⟨y, hy, by omega, by omega⟩⟩
  rintro b H4 g4 ⟨hN5, hN6, hb⟩
  cases b with
  | true =>
    refine ⟨?_⟩
    simp (config := { maxSteps := 4000000 }) only [↓sx0, ↓sx1, ↓sx2, ↓sx3, ↓sx4, ↓sx5, ↓sx6, sx0, sx1, sx2, sx3, sx4, sx5, sx6, tf9, ev3_hold, sxo, sxc, sxp, sxq, sxr, sxs, sxl, sxm, simprocAttr, f8]
    exact ⟨m + 1, _, rfl, HImp.refl _ _, ⟨by omega, fun h hh => by simp [hN5 h hh], fun h hh => by simp [hN6 h hh]⟩, by omega⟩
  | false =>
  obtain ⟨y, hy, d0, d1⟩ := hb rfl
  have hov := hov hok (p m) (t + m) hm1 hm2 y (by omega)
  have hoy : f m ≤ c.over (p m) (t + m) y := by
    rw [← hff m]
    have e1 : c.over (p m) (t + m) (c.tlo (t + m)) = c.dep (p m) + c.tlo (t + m) - c.swl (t + m) := rfl
    have e2 : c.over (p m) (t + m) y = c.dep (p m) + y - c.swl (t + m) := rfl
    rw [e1, e2]
    omega
  obtain ⟨O, hO⟩ : ∃ O, c.over (p m) (t + m) y = O := ⟨_, rfl⟩
  rw [hO] at hoy
  simp only [hO] at hov
  have hdd : D k ≤ min 1000 O ∧ min 1000 O ≤ 1000 := by
    have := hdk3 m (by omega)
    omega
  obtain ⟨dd, hddE⟩ : ∃ dd, min 1000 O = dd := ⟨_, rfl⟩
  rw [hddE] at hdd
  have hs2 := hsp dd
  rw [hE9 dd (by omega) (by omega), hR9 dd (by omega) (by omega)] at hs2
  have hsub := hsub dd hdd.1 hdd.2
  have hSl2 : (Tw.sureF us dd).length ≤ 1000000 := by
    have := Tw.upTo_len (fun v => Tw.sureL v dd us) 20
    unfold Tw.sureF
    omega
  obtain ⟨S1, hS1⟩ : ∃ S1, Tw.sureF us dd = S1 := ⟨_, rfl⟩
  rw [hS1] at hs2 hsub hSl2
  refine ⟨?_⟩
  simp (config := { maxSteps := 4000000 }) only [↓sx0, ↓sx1, ↓sx2, ↓sx3, ↓sx4, ↓sx5, ↓sx6, sx0, sx1, sx2, sx3, sx4, sx5, sx6, tf9, ev3_hold, sxo, sxc, sxp, sxq, sxr, sxs, sxl, sxm, simprocAttr, f9]
  refine at_1 (hrP _ (fun h hh => by simp [hN5 h hh])) i1_len hPm rfl fun ad1 => ?_
  simp (config := { maxSteps := 4000000 }) only [↓sx0, ↓sx1, ↓sx2, ↓sx3, ↓sx4, ↓sx5, ↓sx6, sx0, sx1, sx2, sx3, sx4, sx5, sx6, tf9, ev3_hold, sxo, sxc, sxp, sxq, sxr, sxs, sxl, sxm, simprocAttr, f9]
  refine at_1 (hrH _) i1_len hy rfl fun ad2 => ?_
  simp (config := { maxSteps := 4000000 }) only [↓sx0, ↓sx1, ↓sx2, ↓sx3, ↓sx4, ↓sx5, ↓sx6, sx0, sx1, sx2, sx3, sx4, sx5, sx6, tf9, ev3_hold, sxo, sxc, sxp, sxq, sxr, sxs, sxl, sxm, simprocAttr, dn]
  refine CallOb.pureH (fun w' hp => hov _ w' hp) ?_
  rintro q N12 rfl
  refine ⟨?_⟩
  simp (config := { maxSteps := 4000000 }) only [↓sx0, ↓sx1, ↓sx2, ↓sx3, ↓sx4, ↓sx5, ↓sx6, sx0, sx1, sx2, sx3, sx4, sx5, sx6, tf9, ev3_hold, sxo, sxc, sxp, sxq, sxr, sxs, sxl, sxm, simprocAttr, hddE, dn]
  refine CallOb.pureH (fun w' hp => hs2 _ w' hp) ?_
  rintro q N13 ⟨vx2, vy2, rfl, hGx2, hGy2⟩
  obtain ⟨av2, cv2, rfl⟩ := hGx2.shape
  refine ⟨?_⟩
  simp (config := { maxSteps := 4000000 }) only [↓sx0, ↓sx1, ↓sx2, ↓sx3, ↓sx4, ↓sx5, ↓sx6, sx0, sx1, sx2, sx3, sx4, sx5, sx6, tf9, ev3_hold, sxo, sxc, sxp, sxq, sxr, sxs, sxl, sxm, simprocAttr, z0]
  refine loop_constH _ (HImp.refl _ _) [(6, 6), (21, 21), (202, 214)] (fun n : Nat => [(21, I n)]) (fun n H5 => n ≤ S0.length ∧ (∀ h ∈ N9, h ∈ H5) ∧ (∀ h ∈ N11, h ∈ H5) ∧ ∀ h ∈ N13, h ∈ H5) (fun n => S0.length - n) 0 ?_ ⟨Nat.zero_le _, fun h hh => by simp [hN5 h hh], fun h hh => by simp [hN6 h hh], fun h hh => by simp [hh]⟩ ?_
  · simp (config := { maxSteps := 4000000 }) only [↓sx0, ↓sx1, ↓sx2, ↓sx3, ↓sx4, ↓sx5, ↓sx6, sx0, sx1, sx2, sx3, sx4, sx5, sx6, tf9, ev3_hold, sxo, sxc, sxp, sxq, sxr, sxs, sxl, sxm, simprocAttr]
    try simp
  rintro n H5 g5 ⟨hn, hM1, hM2, hM3⟩
  by_cases hnn : n = S0.length
  · have q7 : ((n : Int) < (S0.length : Int)) = False := eq_false (by omega)
    refine ⟨?_⟩
    simp (config := { maxSteps := 4000000 }) only [↓sx0, ↓sx1, ↓sx2, ↓sx3, ↓sx4, ↓sx5, ↓sx6, sx0, sx1, sx2, sx3, sx4, sx5, sx6, tf9, ev3_hold, sxo, sxc, sxp, sxq, sxr, sxs, sxl, sxm, simprocAttr, q7, f8]
    exact ⟨m + 1, _, rfl, HImp.refl _ _, ⟨by omega, fun h hh => by simp [hM1 h hh], fun h hh => by simp [hM2 h hh]⟩, by omega⟩
  have q7 : ((n : Int) < (S0.length : Int)) = True := eq_true (by omega)
  have q8 : wr (n + 1) = ((n + 1 : Nat) : Int) := (wrap_id (by omega)).trans (by omega)
  obtain ⟨s, hsn⟩ : ∃ s, S0[n]? = some s := ⟨_, List.getElem?_eq_getElem (by omega)⟩
  have hsm : (s ∈ S1) = True := eq_true (hsub s (List.mem_of_getElem? hsn))
  refine ⟨?_⟩
  simp (config := { maxSteps := 4000000 }) only [↓sx0, ↓sx1, ↓sx2, ↓sx3, ↓sx4, ↓sx5, ↓sx6, sx0, sx1, sx2, sx3, sx4, sx5, sx6, tf9, ev3_hold, sxo, sxc, sxp, sxq, sxr, sxs, sxl, sxm, simprocAttr, q7]
  refine amid (at_1 (hGx.rdv i1_len (fun h hh => by simp [hM2 h hh])) i1_len hsn rfl fun ad3 => ?_)
  simp (config := { maxSteps := 4000000 }) only [↓sx0, ↓sx1, ↓sx2, ↓sx3, ↓sx4, ↓sx5, ↓sx6, sx0, sx1, sx2, sx3, sx4, sx5, sx6, tf9, ev3_hold, sxo, sxc, sxp, sxq, sxr, sxs, sxl, sxm, simprocAttr, dn]
  refine CallOb.pureH (fun w' hp => contains_fn w' _ S1 s (hGx2.hp (fun h hh => by simp [hM3 h hh]) hp) (by omega)) ?_
  rintro q N14 rfl
  refine ⟨?_⟩
  simp (config := { maxSteps := 4000000 }) only [↓sx0, ↓sx1, ↓sx2, ↓sx3, ↓sx4, ↓sx5, ↓sx6, sx0, sx1, sx2, sx3, sx4, sx5, sx6, tf9, ev3_hold, sxo, sxc, sxp, sxq, sxr, sxs, sxl, sxm, simprocAttr, hsm, q8]
  exact ⟨n + 1, _, rfl, HImp.refl _ _, ⟨by omega, fun h hh => by simp [hM1 h hh], fun h hh => by simp [hM2 h hh], fun h hh => by simp [hM3 h hh]⟩, by omega⟩
end Go.Proofs.YtpmodggfogahhaaGreatDoor
