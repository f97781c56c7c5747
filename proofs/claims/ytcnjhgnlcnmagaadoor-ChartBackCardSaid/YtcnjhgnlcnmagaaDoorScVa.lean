/- A part of a proof: the symbolic walk and what it shows of single functions. -/
import Derived.Test.YtcnjhgnlcnmagaaDoorC4
set_option linter.all false
namespace Go.Proofs.YtcnjhgnlcnmagaaDoor
open Go.RowKit Go.SX
set_option maxRecDepth 4000
set_option maxHeartbeats 8000000
set_option linter.unusedSimpArgs false
set_option linter.unusedVariables false

/-! ### Water and Floats, both texts -/

noncomputable def waterV (c : Cht) (k t : Int) : Value := if openE c [k] [t] [] = 0 then .tuple #[vS (c.over k.toNat t.toNat (c.tlo t.toNat), c.over k.toNat t.toNat (c.thi t.toNat)), I 0] else .tuple #[vS (0, 0), I (openE c [k] [t] [])]

noncomputable def floatsV (c : Cht) (g k t : Int) : Value := if openE c [k] [t] [g] = 0 then .tuple #[.bool (decide (c.over k.toNat t.toNat (c.tlo t.toNat) ≥ g)), .bool (decide (c.over k.toNat t.toNat (c.thi t.toNat) ≥ g)), I 0] else .tuple #[.bool false, .bool false, I (openE c [k] [t] [g])]

theorem water1_fn (w : World) (v : Value) (c : Cht) (hc : ChOk w v c) (hsm : c.small) (k t : Int) :
    SX.Fn Tryd.prog 32 [v, I k, I t] w (fun _ => False) fun r N => r = waterV c k t := by
  have hc0 := hc
  have hD := detM_ok (X := fun _ => False) hc (fun _ _ => id)
  obtain ⟨sD, sT, sS, rfl, hsD, hsT, hsS⟩ := hc
  obtain ⟨aD, nD, cD, rfl⟩ := hsD.shape
  obtain ⟨aT, nT, cT, rfl⟩ := hsT.shape
  obtain ⟨aS, nS, cS, rfl⟩ := hsS.shape
  have dn : (∀ xs, detM (.agg #[I c.wide, I c.high, .slice aD nD cD, .slice aT nT cT, .slice aS nS cS]) c 64 xs = none) := fun _ => rfl
  unfold waterV
  refine walk [] [] hD Tryd.func32 rfl Tryd.ntmps32 res32 (by kernel_rfl) no_facts ?_
  simp (config := { maxSteps := 4000000 }) only [↓sx0, ↓sx1, ↓sx2, ↓sx3, ↓sx4, ↓sx5, ↓sx6, sx0, sx1, sx2, sx3, sx4, sx5, sx6, tf32, ev3_hold, sxo, sxc, sxp, sxq, sxr, sxs, sxl, sxm, Int.reduceBEq, Int.reduceBNe, Int.reduceLT, Int.reduceLE, Int.reduceEq, Int.reduceGT, Int.reduceGE, Int.reduceToNat, ↓reduceIte, List.reduceReplicate, Nat.reduceAdd, Nat.reduceSub, Nat.reduceMul, Nat.reduceLT, Nat.reduceLeDiff, Nat.reduceBEq, Nat.reduceEqDiff, dn]
  intro b1 b2
  refine CallOb.pureH (fun w' hp => open_fn w' _ _ _ _ c [k] [t] [] (hc0.hp hp) hsm (row_hp (E := 3) (xs := ints [k]) (by simp [cat, i1]) hp) (row_hp (E := 3) (xs := ints [t]) (by simp [cat, i1]) hp) (Sl.nil _ _) (by simp)) ?_
  rintro r N rfl
  by_cases he : openE c [k] [t] [] = 0
  · obtain ⟨hok, hcl, htl, _⟩ := openE_zero he
    have hk := hcl k (by simp)
    have ht := htl t (by simp)
    obtain ⟨K, hK⟩ : ∃ K : Nat, k = K := ⟨k.toNat, by omega⟩
    obtain ⟨T, hT⟩ : ∃ T : Nat, t = T := ⟨t.toNat, by omega⟩
    subst hK hT
    have hm := detM_water (v := (.agg #[I c.wide, I c.high, .slice aD nD cD, .slice aT nT cT, .slice aS nS cS])) hok hk.2 ht.2
    simp only [Int.toNat_natCast, vS, spc] at hm ⊢
    rw [he]
    refine ⟨?_⟩
    simp (config := { maxSteps := 4000000 }) only [↓sx0, ↓sx1, ↓sx2, ↓sx3, ↓sx4, ↓sx5, ↓sx6, sx0, sx1, sx2, sx3, sx4, sx5, sx6, tf32, ev3_hold, sxo, sxc, sxp, sxq, sxr, sxs, sxl, sxm, Int.reduceBEq, Int.reduceBNe, Int.reduceLT, Int.reduceLE, Int.reduceEq, Int.reduceGT, Int.reduceGE, Int.reduceToNat, ↓reduceIte, List.reduceReplicate, Nat.reduceAdd, Nat.reduceSub, Nat.reduceMul, Nat.reduceLT, Nat.reduceLeDiff, Nat.reduceBEq, Nat.reduceEqDiff, hm]
  · have e1 : (openE c [k] [t] [] = 0) = False := eq_false he
    refine ⟨?_⟩
    simp (config := { maxSteps := 4000000 }) only [↓sx0, ↓sx1, ↓sx2, ↓sx3, ↓sx4, ↓sx5, ↓sx6, sx0, sx1, sx2, sx3, sx4, sx5, sx6, tf32, ev3_hold, sxo, sxc, sxp, sxq, sxr, sxs, sxl, sxm, Int.reduceBEq, Int.reduceBNe, Int.reduceLT, Int.reduceLE, Int.reduceEq, Int.reduceGT, Int.reduceGE, Int.reduceToNat, ↓reduceIte, List.reduceReplicate, Nat.reduceAdd, Nat.reduceSub, Nat.reduceMul, Nat.reduceLT, Nat.reduceLeDiff, Nat.reduceBEq, Nat.reduceEqDiff, e1]
    rfl

theorem floats1_fn (w : World) (v : Value) (c : Cht) (hc : ChOk w v c) (hsm : c.small) (g k t : Int) :
    SX.Fn Tryd.prog 34 [v, I g, I k, I t] w (fun _ => False) fun r N => r = floatsV c g k t := by
  have hc0 := hc
  have hD := detM_ok (X := fun _ => False) hc (fun _ _ => id)
  obtain ⟨sD, sT, sS, rfl, hsD, hsT, hsS⟩ := hc
  obtain ⟨aD, nD, cD, rfl⟩ := hsD.shape
  obtain ⟨aT, nT, cT, rfl⟩ := hsT.shape
  obtain ⟨aS, nS, cS, rfl⟩ := hsS.shape
  have dn : (∀ xs, detM (.agg #[I c.wide, I c.high, .slice aD nD cD, .slice aT nT cT, .slice aS nS cS]) c 64 xs = none) := fun _ => rfl
  unfold floatsV
  refine walk [] [] hD Tryd.func34 rfl Tryd.ntmps34 res34 (by kernel_rfl) no_facts ?_
  simp (config := { maxSteps := 4000000 }) only [↓sx0, ↓sx1, ↓sx2, ↓sx3, ↓sx4, ↓sx5, ↓sx6, sx0, sx1, sx2, sx3, sx4, sx5, sx6, tf34, ev3_hold, sxo, sxc, sxp, sxq, sxr, sxs, sxl, sxm, Int.reduceBEq, Int.reduceBNe, Int.reduceLT, Int.reduceLE, Int.reduceEq, Int.reduceGT, Int.reduceGE, Int.reduceToNat, ↓reduceIte, List.reduceReplicate, Nat.reduceAdd, Nat.reduceSub, Nat.reduceMul, Nat.reduceLT, Nat.reduceLeDiff, Nat.reduceBEq, Nat.reduceEqDiff, dn]
  intro b1 b2 b3
  refine CallOb.pureH (fun w' hp => open_fn w' _ _ _ _ c [k] [t] [g] (hc0.hp hp) hsm (row_hp (E := 3) (xs := ints [k]) (by simp [cat, i1]) hp) (row_hp (E := 3) (xs := ints [t]) (by simp [cat, i1]) hp) (row_hp (E := 3) (xs := ints [g]) (by simp [cat, i1]) hp) (by simp)) ?_
  rintro r N rfl
  by_cases he : openE c [k] [t] [g] = 0
  · obtain ⟨hok, hcl, htl, _⟩ := openE_zero he
    have hk := hcl k (by simp)
    have ht := htl t (by simp)
    obtain ⟨K, hK⟩ : ∃ K : Nat, k = K := ⟨k.toNat, by omega⟩
    obtain ⟨T, hT⟩ : ∃ T : Nat, t = T := ⟨t.toNat, by omega⟩
    subst hK hT
    have hm := detM_water (v := (.agg #[I c.wide, I c.high, .slice aD nD cD, .slice aT nT cT, .slice aS nS cS])) hok hk.2 ht.2
    simp only [Int.toNat_natCast, vS, spc] at hm ⊢
    rw [he]
    refine ⟨?_⟩
    simp (config := { maxSteps := 4000000 }) only [↓sx0, ↓sx1, ↓sx2, ↓sx3, ↓sx4, ↓sx5, ↓sx6, sx0, sx1, sx2, sx3, sx4, sx5, sx6, tf34, ev3_hold, sxo, sxc, sxp, sxq, sxr, sxs, sxl, sxm, Int.reduceBEq, Int.reduceBNe, Int.reduceLT, Int.reduceLE, Int.reduceEq, Int.reduceGT, Int.reduceGE, Int.reduceToNat, ↓reduceIte, List.reduceReplicate, Nat.reduceAdd, Nat.reduceSub, Nat.reduceMul, Nat.reduceLT, Nat.reduceLeDiff, Nat.reduceBEq, Nat.reduceEqDiff, hm]
  · have e1 : (openE c [k] [t] [g] = 0) = False := eq_false he
    refine ⟨?_⟩
    simp (config := { maxSteps := 4000000 }) only [↓sx0, ↓sx1, ↓sx2, ↓sx3, ↓sx4, ↓sx5, ↓sx6, sx0, sx1, sx2, sx3, sx4, sx5, sx6, tf34, ev3_hold, sxo, sxc, sxp, sxq, sxr, sxs, sxl, sxm, Int.reduceBEq, Int.reduceBNe, Int.reduceLT, Int.reduceLE, Int.reduceEq, Int.reduceGT, Int.reduceGE, Int.reduceToNat, ↓reduceIte, List.reduceReplicate, Nat.reduceAdd, Nat.reduceSub, Nat.reduceMul, Nat.reduceLT, Nat.reduceLeDiff, Nat.reduceBEq, Nat.reduceEqDiff, e1]

theorem openEct {c : Cht} (a t : Int) : openE c [a] [t] [] = if c.okB then (if notCell c a || notTick c t then 1 else 0) else 10 := by
  unfold openE
  simp

theorem rwater_fn (w : World) (hw : Ways w) (v : Value) (c : Cht) (hc : ChOk w v c) (hsm : c.small) (k t : Int) :
    SX.Fn Tryd.prog 33 [v, I k, I t] w (fun _ => False) fun r N => r = waterV c k t := by
  have hc0 := hc
  have hD := detR_ok (X := fun _ => False) hw hc (fun _ _ => id)
  have hck := (detR_check (v := v) hsm).2
  obtain ⟨sD, sT, sS, rfl, hsD, hsT, hsS⟩ := hc
  obtain ⟨aT, nT, cT, rfl⟩ := hsT.shape
  have hnT := hsT.le spc_len (by omega)
  have hrT := hsT.rd0
  unfold waterV
  refine walk [] [(5, (ones [0, 1, 2, 3, 4, 5, 6, 7, 8, 10, 11, 12, 13, 14, 15, 16, 17, 18, 9, 19, 20, 21, 22] .fin))] hD Tryd.func33 rfl Tryd.ntmps33 res33 (by kernel_rfl) no_facts ?_
  rw [openEct]
  cases hok : c.okB with
  | false =>
    rw [hok] at hck
    simp (config := { maxSteps := 4000000 }) only [↓sx0, ↓sx1, ↓sx2, ↓sx3, ↓sx4, ↓sx5, ↓sx6, sx0, sx1, sx2, sx3, sx4, sx5, sx6, tf33, ev3_hold, sxo, sxc, sxp, sxq, sxr, sxs, sxl, sxm, Int.reduceBEq, Int.reduceBNe, Int.reduceLT, Int.reduceLE, Int.reduceEq, Int.reduceGT, Int.reduceGE, Int.reduceToNat, ↓reduceIte, List.reduceReplicate, Nat.reduceAdd, Nat.reduceSub, Nat.reduceMul, Nat.reduceLT, Nat.reduceLeDiff, Nat.reduceBEq, Nat.reduceEqDiff, hck]
    rfl
  | true =>
  have hok' := (okB_iff c).1 hok
  rw [hok] at hck
  have ic1 := isCell_iff hok' k
  have h60 := hok'.2.2.2.1.2
  have e5 : wr ((nT : Int) - 1) = (c.tide.length : Int) - 1 := (wrap_id (by omega)).trans (by omega)
  cases h1 : notCell c k with
  | true =>
    rw [h1] at ic1
    simp (config := { maxSteps := 4000000 }) only [↓sx0, ↓sx1, ↓sx2, ↓sx3, ↓sx4, ↓sx5, ↓sx6, sx0, sx1, sx2, sx3, sx4, sx5, sx6, tf33, ev3_hold, sxo, sxc, sxp, sxq, sxr, sxs, sxl, sxm, Int.reduceBEq, Int.reduceBNe, Int.reduceLT, Int.reduceLE, Int.reduceEq, Int.reduceGT, Int.reduceGE, Int.reduceToNat, ↓reduceIte, List.reduceReplicate, Nat.reduceAdd, Nat.reduceSub, Nat.reduceMul, Nat.reduceLT, Nat.reduceLeDiff, Nat.reduceBEq, Nat.reduceEqDiff, hck, detR_eq, ic1]
    rfl
  | false =>
  rw [h1] at ic1
  cases h2 : notTick c t with
  | true =>
    have h2' : inB t 0 ((c.tide.length : Int) - 1) = false := by unfold notTick at h2; simpa using h2
    simp (config := { maxSteps := 4000000 }) only [↓sx0, ↓sx1, ↓sx2, ↓sx3, ↓sx4, ↓sx5, ↓sx6, sx0, sx1, sx2, sx3, sx4, sx5, sx6, tf33, ev3_hold, sxo, sxc, sxp, sxq, sxr, sxs, sxl, sxm, Int.reduceBEq, Int.reduceBNe, Int.reduceLT, Int.reduceLE, Int.reduceEq, Int.reduceGT, Int.reduceGE, Int.reduceToNat, ↓reduceIte, List.reduceReplicate, Nat.reduceAdd, Nat.reduceSub, Nat.reduceMul, Nat.reduceLT, Nat.reduceLeDiff, Nat.reduceBEq, Nat.reduceEqDiff, hck, detR_eq, ic1, e5, h2']
    rfl
  | false =>
    have h2' : inB t 0 ((c.tide.length : Int) - 1) = true := by unfold notTick at h2; simpa using h2
    have hk : 0 ≤ k ∧ k ≤ (c.depth.length : Int) - 1 := by
      unfold notCell at h1
      rw [Bool.not_eq_false', inB_iff] at h1
      exact h1
    have ht := (inB_iff _ _ _).1 h2'
    obtain ⟨K, hK⟩ : ∃ K : Nat, k = K := ⟨k.toNat, by omega⟩
    obtain ⟨T, hT⟩ : ∃ T : Nat, t = T := ⟨t.toNat, by omega⟩
    subst hK hT
    simp only [Int.toNat_natCast]
    have hu : c.tide[T]? = some (c.tlo T, c.thi T) := (getD_at (show T < c.tide.length by omega) (0, 0))
    have hb := hok'.2.2.2.2.2.2.1 (c.tlo T, c.thi T) (List.mem_of_getElem? hu)
    simp only [] at hb
    have o1 : detR (.agg #[I c.wide, I c.high, sD, .slice aT nT cT, sS]) c 43 [.agg #[I c.wide, I c.high, sD, .slice aT nT cT, sS], I K, I T, I (c.tlo T)] = some (I (c.over K T (c.tlo T))) := detM_over (v := (.agg #[I c.wide, I c.high, sD, .slice aT nT cT, sS])) hok' (k := K) (t := T) (h := c.tlo T) (by omega) (by omega) (by omega)
    have o2 : detR (.agg #[I c.wide, I c.high, sD, .slice aT nT cT, sS]) c 43 [.agg #[I c.wide, I c.high, sD, .slice aT nT cT, sS], I K, I T, I (c.thi T)] = some (I (c.over K T (c.thi T))) := detM_over (v := (.agg #[I c.wide, I c.high, sD, .slice aT nT cT, sS])) hok' (k := K) (t := T) (h := c.thi T) (by omega) (by omega) (by omega)
    simp (config := { maxSteps := 4000000 }) only [↓sx0, ↓sx1, ↓sx2, ↓sx3, ↓sx4, ↓sx5, ↓sx6, sx0, sx1, sx2, sx3, sx4, sx5, sx6, tf33, ev3_hold, sxo, sxc, sxp, sxq, sxr, sxs, sxl, sxm, Int.reduceBEq, Int.reduceBNe, Int.reduceLT, Int.reduceLE, Int.reduceEq, Int.reduceGT, Int.reduceGE, Int.reduceToNat, ↓reduceIte, List.reduceReplicate, Nat.reduceAdd, Nat.reduceSub, Nat.reduceMul, Nat.reduceLT, Nat.reduceLeDiff, Nat.reduceBEq, Nat.reduceEqDiff, hck, detR_eq, ic1, e5, h2']
    refine at_f (hrT _) spc_len hu (o := 0) (x := I (c.tlo T)) rfl fun ad1 => ?_
    simp (config := { maxSteps := 4000000 }) only [↓sx0, ↓sx1, ↓sx2, ↓sx3, ↓sx4, ↓sx5, ↓sx6, sx0, sx1, sx2, sx3, sx4, sx5, sx6, tf33, ev3_hold, sxo, sxc, sxp, sxq, sxr, sxs, sxl, sxm, Int.reduceBEq, Int.reduceBNe, Int.reduceLT, Int.reduceLE, Int.reduceEq, Int.reduceGT, Int.reduceGE, Int.reduceToNat, ↓reduceIte, List.reduceReplicate, Nat.reduceAdd, Nat.reduceSub, Nat.reduceMul, Nat.reduceLT, Nat.reduceLeDiff, Nat.reduceBEq, Nat.reduceEqDiff, o1, o2]
    refine at_f (hrT _) spc_len hu (o := 1) (x := I (c.thi T)) rfl fun ad2 => ?_
    simp (config := { maxSteps := 4000000 }) only [↓sx0, ↓sx1, ↓sx2, ↓sx3, ↓sx4, ↓sx5, ↓sx6, sx0, sx1, sx2, sx3, sx4, sx5, sx6, tf33, ev3_hold, sxo, sxc, sxp, sxq, sxr, sxs, sxl, sxm, Int.reduceBEq, Int.reduceBNe, Int.reduceLT, Int.reduceLE, Int.reduceEq, Int.reduceGT, Int.reduceGE, Int.reduceToNat, ↓reduceIte, List.reduceReplicate, Nat.reduceAdd, Nat.reduceSub, Nat.reduceMul, Nat.reduceLT, Nat.reduceLeDiff, Nat.reduceBEq, Nat.reduceEqDiff, o1, o2, vS, spc]

theorem rfloats_fn (w : World) (hw : Ways w) (v : Value) (c : Cht) (hc : ChOk w v c) (hsm : c.small) (g k t : Int) :
    SX.Fn Tryd.prog 35 [v, I g, I k, I t] w (fun _ => False) fun r N => r = floatsV c g k t := by
  have hc0 := hc
  obtain ⟨sD, sT, sS, rfl, hsD, hsT, hsS⟩ := hc
  obtain ⟨aD, nD, cD, rfl⟩ := hsD.shape
  obtain ⟨aT, nT, cT, rfl⟩ := hsT.shape
  obtain ⟨aS, nS, cS, rfl⟩ := hsS.shape
  have e3 : openE c [k] [t] [g] = if openE c [k] [t] [] = 0 then (if notDraught g then 1 else 0) else openE c [k] [t] [] := by
    unfold openE
    cases c.okB <;> cases h1 : notCell c k <;> cases h2 : notTick c t <;> simp [h1, h2]
  refine walk [] [] (detC_ok _ _) Tryd.func35 rfl Tryd.ntmps35 res35 (by kernel_rfl) no_facts ?_
  have dn : (∀ xs, detC 33 xs = none) := fun _ => rfl
  simp (config := { maxSteps := 4000000 }) only [↓sx0, ↓sx1, ↓sx2, ↓sx3, ↓sx4, ↓sx5, ↓sx6, sx0, sx1, sx2, sx3, sx4, sx5, sx6, tf35, ev3_hold, sxo, sxc, sxp, sxq, sxr, sxs, sxl, sxm, Int.reduceBEq, Int.reduceBNe, Int.reduceLT, Int.reduceLE, Int.reduceEq, Int.reduceGT, Int.reduceGE, Int.reduceToNat, ↓reduceIte, List.reduceReplicate, Nat.reduceAdd, Nat.reduceSub, Nat.reduceMul, Nat.reduceLT, Nat.reduceLeDiff, Nat.reduceBEq, Nat.reduceEqDiff, dn]
  refine CallOb.pureH (fun w' hp => rwater_fn w' (hw.hp hp) _ c (hc0.hp hp) hsm k t) ?_
  rintro r N rfl
  unfold waterV floatsV
  rw [e3]
  by_cases he : openE c [k] [t] [] = 0
  · rw [if_pos he, if_pos he]
    cases hg : notDraught g with
    | true =>
      have h3 : inB g 1 100 = false := by unfold notDraught at hg; simpa using hg
      refine ⟨?_⟩
      simp (config := { maxSteps := 4000000 }) only [↓sx0, ↓sx1, ↓sx2, ↓sx3, ↓sx4, ↓sx5, ↓sx6, sx0, sx1, sx2, sx3, sx4, sx5, sx6, tf35, ev3_hold, sxo, sxc, sxp, sxq, sxr, sxs, sxl, sxm, Int.reduceBEq, Int.reduceBNe, Int.reduceLT, Int.reduceLE, Int.reduceEq, Int.reduceGT, Int.reduceGE, Int.reduceToNat, ↓reduceIte, List.reduceReplicate, Nat.reduceAdd, Nat.reduceSub, Nat.reduceMul, Nat.reduceLT, Nat.reduceLeDiff, Nat.reduceBEq, Nat.reduceEqDiff, detC_eq, h3, vS, spc]
    | false =>
      have h3 : inB g 1 100 = true := by unfold notDraught at hg; simpa using hg
      refine ⟨?_⟩
      simp (config := { maxSteps := 4000000 }) only [↓sx0, ↓sx1, ↓sx2, ↓sx3, ↓sx4, ↓sx5, ↓sx6, sx0, sx1, sx2, sx3, sx4, sx5, sx6, tf35, ev3_hold, sxo, sxc, sxp, sxq, sxr, sxs, sxl, sxm, Int.reduceBEq, Int.reduceBNe, Int.reduceLT, Int.reduceLE, Int.reduceEq, Int.reduceGT, Int.reduceGE, Int.reduceToNat, ↓reduceIte, List.reduceReplicate, Nat.reduceAdd, Nat.reduceSub, Nat.reduceMul, Nat.reduceLT, Nat.reduceLeDiff, Nat.reduceBEq, Nat.reduceEqDiff, detC_eq, h3, vS, spc]
  · rw [if_neg he, if_neg he, if_neg he]
    have e1 : (openE c [k] [t] [] = 0) = False := eq_false he
    refine ⟨?_⟩
    simp (config := { maxSteps := 4000000 }) only [↓sx0, ↓sx1, ↓sx2, ↓sx3, ↓sx4, ↓sx5, ↓sx6, sx0, sx1, sx2, sx3, sx4, sx5, sx6, tf35, ev3_hold, sxo, sxc, sxp, sxq, sxr, sxs, sxl, sxm, Int.reduceBEq, Int.reduceBNe, Int.reduceLT, Int.reduceLE, Int.reduceEq, Int.reduceGT, Int.reduceGE, Int.reduceToNat, ↓reduceIte, List.reduceReplicate, Nat.reduceAdd, Nat.reduceSub, Nat.reduceMul, Nat.reduceLT, Nat.reduceLeDiff, Nat.reduceBEq, Nat.reduceEqDiff, e1, vS, spc]

end Go.Proofs.YtcnjhgnlcnmagaaDoor
