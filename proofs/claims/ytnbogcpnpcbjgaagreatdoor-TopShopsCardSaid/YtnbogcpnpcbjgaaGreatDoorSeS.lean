/- A part of a proof: the symbolic walk and what it shows of single functions. -/
import Derived.Test.YtnbogcpnpcbjgaaGreatDoorSeR
set_option linter.all false
namespace Go.Proofs.YtnbogcpnpcbjgaaGreatDoor
open Go.RowKit Go.SX
set_option maxRecDepth 10000
set_option maxHeartbeats 0
set_option linter.unusedSimpArgs false
set_option linter.unusedVariables false
theorem shB_iff (x : Int × Int × Int) : shB x = true ↔ (-1000000 ≤ x.1 ∧ x.1 ≤ x.2.1) ∧ x.2.1 ≤ 1000000 ∧ 0 ≤ x.2.2 ∧ x.2.2 ≤ 100 := by
  unfold shB
  simp only [Bool.and_eq_true, decide_eq_true_eq]
  omega
theorem shop_no {l : List (Int × Int × Int)} {st : Int} {k : Nat} {x : Int × Int × Int} (hx : l[k]? = some x) (h : ¬ shB x = true) : shopsB l st = false := by
  unfold shopsB
  rw [show l.all shB = false from List.all_eq_false.2 ⟨x, List.mem_of_getElem? hx, h⟩]
  simp
theorem rcheckShops_fn (w : World) (v : Value) (l : List (Int × Int × Int)) (hS : Sl w v 3 (cat ldc l)) (hl : l.length ≤ 12) (st : Int) : SX.Fn Tryz.prog 24 [v, I st] w (fun _ => False) fun q N => ∃ c : Int, q = I c ∧ (c = 0 ↔ shopsB l st = true) := by
  have dn : ∀ (g : Nat) (xs : List Value), det0 g xs = none := fun _ _ => rfl
  have hfr := fun (a b c : Int) w' => rfrom11_fn w' a b c
  have hr := fun H => hS.rd0 H
  obtain ⟨a, n, c, rfl⟩ := hS.shape
  have hn := hS.le ldc_len (by omega)
  subst hn
  have e0 : ((l.length : Int) > 12) = False := eq_false (by omega)
  have hs := hfr st 0 1200
  refine walk [] [] (det0_ok _ _) Tryz.func24 rfl Tryz.ntmps24 res24 (by kernel_rfl) no_facts ?_
  simp (config := { maxSteps := 4000000 }) only [↓sx0, ↓sx1, ↓sx2, ↓sx3, ↓sx4, ↓sx5, ↓sx6, sx0, sx1, sx2, sx3, sx4, sx5, sx6, tf24, ev3_hold, sxo, sxc, sxp, sxq, sxr, sxs, sxl, sxm, simprocAttr, e0]
  refine loop_constH [] (HImp.nil _ _) [(4, 5), (9, 46)] (fun k : Nat => [(4, I 0), (5, I k)]) (fun k H1 => k ≤ l.length ∧ ∀ j x, j < k → l[j]? = some x → shB x = true) (fun k => l.length - k) 0 ?_ ⟨Nat.zero_le _, fun j x h => by omega⟩ ?_
  · simp (config := { maxSteps := 4000000 }) only [↓sx0, ↓sx1, ↓sx2, ↓sx3, ↓sx4, ↓sx5, ↓sx6, sx0, sx1, sx2, sx3, sx4, sx5, sx6, tf24, ev3_hold, sxo, sxc, sxp, sxq, sxr, sxs, sxl, sxm, simprocAttr]
    try simp
  rintro k H1 g1 ⟨hk, hall⟩
  by_cases hkn : k = l.length
  · have e7 : ((k : Int) < (l.length : Int)) = False := eq_false (by omega)
    have hA : l.all shB = true := List.all_eq_true.2 fun x hx => by
      obtain ⟨j, hj⟩ := List.getElem?_of_mem hx
      exact hall j x (by have := (List.getElem?_eq_some_iff.1 hj).1; omega) hj
    have hB : shopsB l st = decide (0 ≤ st ∧ st ≤ 1200) := by
      unfold shopsB
      rw [hA, decide_eq_true hl]
      rfl
    rw [hB]
    cases hb : decide (0 ≤ st ∧ st ≤ 1200) with
    | false =>
      rw [hb] at hs
      refine ⟨?_⟩
      simp (config := { maxSteps := 4000000 }) only [↓sx0, ↓sx1, ↓sx2, ↓sx3, ↓sx4, ↓sx5, ↓sx6, sx0, sx1, sx2, sx3, sx4, sx5, sx6, tf24, ev3_hold, sxo, sxc, sxp, sxq, sxr, sxs, sxl, sxm, simprocAttr, e7, dn]
      refine CallOb.pureH (fun w' hp => hs w') ?_
      rintro q N rfl
      refine ⟨?_⟩
      simp (config := { maxSteps := 4000000 }) only [↓sx0, ↓sx1, ↓sx2, ↓sx3, ↓sx4, ↓sx5, ↓sx6, sx0, sx1, sx2, sx3, sx4, sx5, sx6, tf24, ev3_hold, sxo, sxc, sxp, sxq, sxr, sxs, sxl, sxm, simprocAttr]
      exact ⟨1, rfl, by simp⟩
    | true =>
      rw [hb] at hs
      refine ⟨?_⟩
      simp (config := { maxSteps := 4000000 }) only [↓sx0, ↓sx1, ↓sx2, ↓sx3, ↓sx4, ↓sx5, ↓sx6, sx0, sx1, sx2, sx3, sx4, sx5, sx6, tf24, ev3_hold, sxo, sxc, sxp, sxq, sxr, sxs, sxl, sxm, simprocAttr, e7, dn]
      refine CallOb.pureH (fun w' hp => hs w') ?_
      rintro q N rfl
      refine ⟨?_⟩
      simp (config := { maxSteps := 4000000 }) only [↓sx0, ↓sx1, ↓sx2, ↓sx3, ↓sx4, ↓sx5, ↓sx6, sx0, sx1, sx2, sx3, sx4, sx5, sx6, tf24, ev3_hold, sxo, sxc, sxp, sxq, sxr, sxs, sxl, sxm, simprocAttr]
      exact ⟨0, rfl, by simp⟩
  have e7 : ((k : Int) < (l.length : Int)) = True := eq_true (by omega)
  have e8 : wr (k + 1) = ((k + 1 : Nat) : Int) := (wrap_id (by omega)).trans (by omega)
  obtain ⟨x, hx⟩ : ∃ x, l[k]? = some x := ⟨_, List.getElem?_eq_getElem (by omega)⟩
  have hbi := shB_iff x
  have hno : shB x = false → shopsB l st = false := fun h => shop_no hx (by rw [h]; simp)
  have f1 := hfr x.1 (-1000000) x.2.1
  have f3 := hfr x.2.2 0 100
  by_cases c1 : -1000000 ≤ x.1 ∧ x.1 ≤ x.2.1
  case neg =>
    rw [decide_eq_false c1] at f1
    have hB1 := hno (by cases hb : shB x with | false => rfl | true => exact absurd (hbi.1 hb).1 c1)
    rw [hB1]
    refine ⟨?_⟩
    simp (config := { maxSteps := 4000000 }) only [↓sx0, ↓sx1, ↓sx2, ↓sx3, ↓sx4, ↓sx5, ↓sx6, sx0, sx1, sx2, sx3, sx4, sx5, sx6, tf24, ev3_hold, sxo, sxc, sxp, sxq, sxr, sxs, sxl, sxm, simprocAttr, e7]
    refine amid (at_f2 (o1 := 0) (o2 := 0) (hr _) ldc_len hx rfl fun ad => ?_)
    simp (config := { maxSteps := 4000000 }) only [↓sx0, ↓sx1, ↓sx2, ↓sx3, ↓sx4, ↓sx5, ↓sx6, sx0, sx1, sx2, sx3, sx4, sx5, sx6, tf24, ev3_hold, sxo, sxc, sxp, sxq, sxr, sxs, sxl, sxm, simprocAttr, e7]
    refine amid (at_f2 (o1 := 0) (o2 := 1) (hr _) ldc_len hx rfl fun ad => ?_)
    simp (config := { maxSteps := 4000000 }) only [↓sx0, ↓sx1, ↓sx2, ↓sx3, ↓sx4, ↓sx5, ↓sx6, sx0, sx1, sx2, sx3, sx4, sx5, sx6, tf24, ev3_hold, sxo, sxc, sxp, sxq, sxr, sxs, sxl, sxm, simprocAttr, dn]
    refine CallOb.pureH (fun w' hp => f1 w') ?_
    rintro q N3 rfl
    refine ⟨?_⟩
    simp (config := { maxSteps := 4000000 }) only [↓sx0, ↓sx1, ↓sx2, ↓sx3, ↓sx4, ↓sx5, ↓sx6, sx0, sx1, sx2, sx3, sx4, sx5, sx6, tf24, ev3_hold, sxo, sxc, sxp, sxq, sxr, sxs, sxl, sxm, simprocAttr]
    exact ⟨112, rfl, by simp⟩
  rw [decide_eq_true c1] at f1
  by_cases c2 : x.2.1 > 1000000
  · have e2 : (x.2.1 > 1000000) = True := eq_true c2
    have hB1 := hno (by cases hb : shB x with | false => rfl | true => exact absurd (hbi.1 hb).2.1 (by omega))
    rw [hB1]
    refine ⟨?_⟩
    simp (config := { maxSteps := 4000000 }) only [↓sx0, ↓sx1, ↓sx2, ↓sx3, ↓sx4, ↓sx5, ↓sx6, sx0, sx1, sx2, sx3, sx4, sx5, sx6, tf24, ev3_hold, sxo, sxc, sxp, sxq, sxr, sxs, sxl, sxm, simprocAttr, e7]
    refine amid (at_f2 (o1 := 0) (o2 := 0) (hr _) ldc_len hx rfl fun ad => ?_)
    simp (config := { maxSteps := 4000000 }) only [↓sx0, ↓sx1, ↓sx2, ↓sx3, ↓sx4, ↓sx5, ↓sx6, sx0, sx1, sx2, sx3, sx4, sx5, sx6, tf24, ev3_hold, sxo, sxc, sxp, sxq, sxr, sxs, sxl, sxm, simprocAttr, e7]
    refine amid (at_f2 (o1 := 0) (o2 := 1) (hr _) ldc_len hx rfl fun ad => ?_)
    simp (config := { maxSteps := 4000000 }) only [↓sx0, ↓sx1, ↓sx2, ↓sx3, ↓sx4, ↓sx5, ↓sx6, sx0, sx1, sx2, sx3, sx4, sx5, sx6, tf24, ev3_hold, sxo, sxc, sxp, sxq, sxr, sxs, sxl, sxm, simprocAttr, dn]
    refine CallOb.pureH (fun w' hp => f1 w') ?_
    rintro q N3 rfl
    refine ⟨?_⟩
    simp (config := { maxSteps := 4000000 }) only [↓sx0, ↓sx1, ↓sx2, ↓sx3, ↓sx4, ↓sx5, ↓sx6, sx0, sx1, sx2, sx3, sx4, sx5, sx6, tf24, ev3_hold, sxo, sxc, sxp, sxq, sxr, sxs, sxl, sxm, simprocAttr, e7]
    refine amid (at_f2 (o1 := 0) (o2 := 1) (hr _) ldc_len hx rfl fun ad => ?_)
    simp (config := { maxSteps := 4000000 }) only [↓sx0, ↓sx1, ↓sx2, ↓sx3, ↓sx4, ↓sx5, ↓sx6, sx0, sx1, sx2, sx3, sx4, sx5, sx6, tf24, ev3_hold, sxo, sxc, sxp, sxq, sxr, sxs, sxl, sxm, simprocAttr, e2]
    exact ⟨112, rfl, by simp⟩
  have e2 : (x.2.1 > 1000000) = False := eq_false c2
  by_cases c3 : 0 ≤ x.2.2 ∧ x.2.2 ≤ 100
  case neg =>
    rw [decide_eq_false c3] at f3
    have hB1 := hno (by cases hb : shB x with | false => rfl | true => exact absurd (hbi.1 hb).2.2 c3)
    rw [hB1]
    refine ⟨?_⟩
    simp (config := { maxSteps := 4000000 }) only [↓sx0, ↓sx1, ↓sx2, ↓sx3, ↓sx4, ↓sx5, ↓sx6, sx0, sx1, sx2, sx3, sx4, sx5, sx6, tf24, ev3_hold, sxo, sxc, sxp, sxq, sxr, sxs, sxl, sxm, simprocAttr, e7]
    refine amid (at_f2 (o1 := 0) (o2 := 0) (hr _) ldc_len hx rfl fun ad => ?_)
    simp (config := { maxSteps := 4000000 }) only [↓sx0, ↓sx1, ↓sx2, ↓sx3, ↓sx4, ↓sx5, ↓sx6, sx0, sx1, sx2, sx3, sx4, sx5, sx6, tf24, ev3_hold, sxo, sxc, sxp, sxq, sxr, sxs, sxl, sxm, simprocAttr, e7]
    refine amid (at_f2 (o1 := 0) (o2 := 1) (hr _) ldc_len hx rfl fun ad => ?_)
    simp (config := { maxSteps := 4000000 }) only [↓sx0, ↓sx1, ↓sx2, ↓sx3, ↓sx4, ↓sx5, ↓sx6, sx0, sx1, sx2, sx3, sx4, sx5, sx6, tf24, ev3_hold, sxo, sxc, sxp, sxq, sxr, sxs, sxl, sxm, simprocAttr, dn]
    refine CallOb.pureH (fun w' hp => f1 w') ?_
    rintro q N3 rfl
    refine ⟨?_⟩
    simp (config := { maxSteps := 4000000 }) only [↓sx0, ↓sx1, ↓sx2, ↓sx3, ↓sx4, ↓sx5, ↓sx6, sx0, sx1, sx2, sx3, sx4, sx5, sx6, tf24, ev3_hold, sxo, sxc, sxp, sxq, sxr, sxs, sxl, sxm, simprocAttr, e7]
    refine amid (at_f2 (o1 := 0) (o2 := 1) (hr _) ldc_len hx rfl fun ad => ?_)
    simp (config := { maxSteps := 4000000 }) only [↓sx0, ↓sx1, ↓sx2, ↓sx3, ↓sx4, ↓sx5, ↓sx6, sx0, sx1, sx2, sx3, sx4, sx5, sx6, tf24, ev3_hold, sxo, sxc, sxp, sxq, sxr, sxs, sxl, sxm, simprocAttr, e2, e7]
    refine amid (at_f (o := 2) (hr _) ldc_len hx rfl fun ad => ?_)
    simp (config := { maxSteps := 4000000 }) only [↓sx0, ↓sx1, ↓sx2, ↓sx3, ↓sx4, ↓sx5, ↓sx6, sx0, sx1, sx2, sx3, sx4, sx5, sx6, tf24, ev3_hold, sxo, sxc, sxp, sxq, sxr, sxs, sxl, sxm, simprocAttr, dn]
    refine CallOb.pureH (fun w' hp => f3 w') ?_
    rintro q N4 rfl
    refine ⟨?_⟩
    simp (config := { maxSteps := 4000000 }) only [↓sx0, ↓sx1, ↓sx2, ↓sx3, ↓sx4, ↓sx5, ↓sx6, sx0, sx1, sx2, sx3, sx4, sx5, sx6, tf24, ev3_hold, sxo, sxc, sxp, sxq, sxr, sxs, sxl, sxm, simprocAttr]
    exact ⟨112, rfl, by simp⟩
  rw [decide_eq_true c3] at f3
  refine ⟨?_⟩
  simp (config := { maxSteps := 4000000 }) only [↓sx0, ↓sx1, ↓sx2, ↓sx3, ↓sx4, ↓sx5, ↓sx6, sx0, sx1, sx2, sx3, sx4, sx5, sx6, tf24, ev3_hold, sxo, sxc, sxp, sxq, sxr, sxs, sxl, sxm, simprocAttr, e7]
  refine amid (at_f2 (o1 := 0) (o2 := 0) (hr _) ldc_len hx rfl fun ad => ?_)
  simp (config := { maxSteps := 4000000 }) only [↓sx0, ↓sx1, ↓sx2, ↓sx3, ↓sx4, ↓sx5, ↓sx6, sx0, sx1, sx2, sx3, sx4, sx5, sx6, tf24, ev3_hold, sxo, sxc, sxp, sxq, sxr, sxs, sxl, sxm, simprocAttr, e7]
  refine amid (at_f2 (o1 := 0) (o2 := 1) (hr _) ldc_len hx rfl fun ad => ?_)
  simp (config := { maxSteps := 4000000 }) only [↓sx0, ↓sx1, ↓sx2, ↓sx3, ↓sx4, ↓sx5, ↓sx6, sx0, sx1, sx2, sx3, sx4, sx5, sx6, tf24, ev3_hold, sxo, sxc, sxp, sxq, sxr, sxs, sxl, sxm, simprocAttr, dn]
  refine CallOb.pureH (fun w' hp => f1 w') ?_
  rintro q N3 rfl
  refine ⟨?_⟩
  simp (config := { maxSteps := 4000000 }) only [↓sx0, ↓sx1, ↓sx2, ↓sx3, ↓sx4, ↓sx5, ↓sx6, sx0, sx1, sx2, sx3, sx4, sx5, sx6, tf24, ev3_hold, sxo, sxc, sxp, sxq, sxr, sxs, sxl, sxm, simprocAttr, e7]
  refine amid (at_f2 (o1 := 0) (o2 := 1) (hr _) ldc_len hx rfl fun ad => ?_)
  simp (config := { maxSteps := 4000000 }) only [↓sx0, ↓sx1, ↓sx2, ↓sx3, ↓sx4, ↓sx5, ↓sx6, sx0, sx1, sx2, sx3, sx4, sx5, sx6, tf24, ev3_hold, sxo, sxc, sxp, sxq, sxr, sxs, sxl, sxm, simprocAttr, e2, e7]
  refine amid (at_f (o := 2) (hr _) ldc_len hx rfl fun ad => ?_)
  simp (config := { maxSteps := 4000000 }) only [↓sx0, ↓sx1, ↓sx2, ↓sx3, ↓sx4, ↓sx5, ↓sx6, sx0, sx1, sx2, sx3, sx4, sx5, sx6, tf24, ev3_hold, sxo, sxc, sxp, sxq, sxr, sxs, sxl, sxm, simprocAttr, dn]
  refine CallOb.pureH (fun w' hp => f3 w') ?_
  rintro q N4 rfl
  refine ⟨?_⟩
  simp (config := { maxSteps := 4000000 }) only [↓sx0, ↓sx1, ↓sx2, ↓sx3, ↓sx4, ↓sx5, ↓sx6, sx0, sx1, sx2, sx3, sx4, sx5, sx6, tf24, ev3_hold, sxo, sxc, sxp, sxq, sxr, sxs, sxl, sxm, simprocAttr, e8]
  refine ⟨k + 1, _, rfl, HImp.refl _ _, ⟨by omega, fun j y hj hy => ?_⟩, by omega⟩
  by_cases hjk : j = k
  · subst hjk
    rw [hx] at hy
    cases hy
    exact hbi.2 ⟨c1, by omega, c3⟩
  · exact hall j y (by omega) hy
end Go.Proofs.YtnbogcpnpcbjgaaGreatDoor
