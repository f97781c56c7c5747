/- Parts of a proof: the symbolic walk and what it shows of single functions. -/
import Derived.Test.YtcnjhgnlcnmagaaDoorC4
set_option linter.all false
namespace Go.Proofs.YtcnjhgnlcnmagaaDoor
open Go.RowKit Go.SX
set_option maxRecDepth 4000
set_option maxHeartbeats 8000000
set_option linter.unusedSimpArgs false
set_option linter.unusedVariables false

/-! ### Water and Floats, both texts -/

noncomputable def waterV (c : Cht) (k t : Int) : Value := if openE c [k] [t] [] = 0 then .tuple #[vS (c.over k.toNat t.toNat (c.tlo t.toNat), c.over k.toNat t.toNat (c.thi t.toNat)), I 0] else .tuple #[vS (0, 0), I (openE c [k] [t] [])]

noncomputable def floatsV (c : Cht) (g k t : Int) : Value := if openE c [k] [t] [g] = 0 then .tuple #[.bool (decide (c.over k.toNat t.toNat (c.tlo t.toNat) ≥ g)), .bool (decide (c.over k.toNat t.toNat (c.thi t.toNat) ≥ g)), I 0] else .tuple #[.bool false, .bool false, I (openE c [k] [t] [g])]

theorem water1_fn (w : World) (v : Value) (c : Cht) (hc : ChOk w v c) (hsm : c.small) (k t : Int) :
    SX.Fn Tryd.prog 32 [v, I k, I t] w (fun _ => False) fun r N => r = waterV c k t := by
  have hc0 := hc
  have hD := detM_ok (X := fun _ => False) hc (fun _ _ => id)
  obtain ⟨sD, sT, sS, rfl, hsD, hsT, hsS⟩ := hc
  obtain ⟨aD, nD, cD, rfl⟩ := hsD.shape
  obtain ⟨aT, nT, cT, rfl⟩ := hsT.shape
  obtain ⟨aS, nS, cS, rfl⟩ := hsS.shape
  have dn : (∀ xs, detM (.agg #[I c.wide, I c.high, .slice aD nD cD, .slice aT nT cT, .slice aS nS cS]) c 64 xs = none) := fun _ => rfl
  unfold waterV
  refine walk [] [] hD Tryd.func32 rfl Tryd.ntmps32 res32 (by kernel_rfl) no_facts ?_
  simp (config := { maxSteps := 4000000 }) only [↓sx0, ↓sx1, ↓sx2, ↓sx3, ↓sx4, ↓sx5, ↓sx6, sx0, sx1, sx2, sx3, sx4, sx5, sx6, tf32, ev3_hold, sxo, sxc, sxp, sxq, sxr, sxs, sxl, sxm, Int.reduceBEq, Int.reduceBNe, Int.reduceLT, Int.reduceLE, Int.reduceEq, Int.reduceGT, Int.reduceGE, Int.reduceToNat, ↓reduceIte, List.reduceReplicate, Nat.reduceAdd, Nat.reduceSub, Nat.reduceMul, Nat.reduceLT, Nat.reduceLeDiff, Nat.reduceBEq, Nat.reduceEqDiff, dn]
  intro b1 b2
  refine CallOb.pureH (fun w' hp => open_fn w' _ _ _ _ c [k] [t] [] (hc0.hp hp) hsm (row_hp (E := 3) (xs := ints [k]) (by simp [cat, i1]) hp) (row_hp (E := 3) (xs := ints [t]) (by simp [cat, i1]) hp) (Sl.nil _ _) (by simp)) ?_
  rintro r N rfl
  by_cases he : openE c [k] [t] [] = 0
  · obtain ⟨hok, hcl, htl, _⟩ := openE_zero he
    have hk := hcl k (by simp)
    have ht := htl t (by simp)
    obtain ⟨K, hK⟩ : ∃ K : Nat, k = K := ⟨k.toNat, by omega⟩
    obtain ⟨T, hT⟩ : ∃ T : Nat, t = T := ⟨t.toNat, by omega⟩
    subst hK hT
    have hm := detM_water (v := (.agg #[I c.wide, I c.high, .slice aD nD cD, .slice aT nT cT, .slice aS nS cS])) hok hk.2 ht.2
    simp only [Int.toNat_natCast, vS, spc] at hm ⊢
    rw [he]
    refine ⟨?_⟩
    simp (config := { maxSteps := 4000000 }) only [↓sx0, ↓sx1, ↓sx2, ↓sx3, ↓sx4, ↓sx5, ↓sx6, sx0, sx1, sx2, sx3, sx4, sx5, sx6, tf32, ev3_hold, sxo, sxc, sxp, sxq, sxr, sxs, sxl, sxm, Int.reduceBEq, Int.reduceBNe, Int.reduceLT, Int.reduceLE, Int.reduceEq, Int.reduceGT, Int.reduceGE, Int.reduceToNat, ↓reduceIte, List.reduceReplicate, Nat.reduceAdd, Nat.reduceSub, Nat.reduceMul, Nat.reduceLT, Nat.reduceLeDiff, Nat.reduceBEq, Nat.reduceEqDiff, hm]
  · have e1 : (openE c [k] [t] [] = 0) = False := eq_false he
    refine ⟨?_⟩
    simp (config := { maxSteps := 4000000 }) only [↓sx0, ↓sx1, ↓sx2, ↓sx3, ↓sx4, ↓sx5, ↓sx6, sx0, sx1, sx2, sx3, sx4, sx5, sx6, tf32, ev3_hold, sxo, sxc, sxp, sxq, sxr, sxs, sxl, sxm, Int.reduceBEq, Int.reduceBNe, Int.reduceLT, Int.reduceLE, Int.reduceEq, Int.reduceGT, Int.reduceGE, Int.reduceToNat, ↓reduceIte, List.reduceReplicate, Nat.reduceAdd, Nat.reduceSub, Nat.reduceMul, Nat.reduceLT, Nat.reduceLeDiff, Nat.reduceBEq, Nat.reduceEqDiff, e1]
    rfl

theorem floats1_fn (w : World) (v : Value) (c : Cht) (hc : ChOk w v c) (hsm : c.small) (g k t : Int) :
    SX.Fn Tryd.prog 34 [v, I g, I k, I t] w (fun _ => False) fun r N => r = floatsV c g k t := by
  have hc0 := hc
  have hD := detM_ok (X := fun _ => False) hc (fun _ _ => id)
  obtain ⟨sD, sT, sS, rfl, hsD, hsT, hsS⟩ := hc
  obtain ⟨aD, nD, cD, rfl⟩ := hsD.shape
  obtain ⟨aT, nT, cT, rfl⟩ := hsT.shape
  obtain ⟨aS, nS, cS, rfl⟩ := hsS.shape
  have dn : (∀ xs, detM (.agg #[I c.wide, I c.high, .slice aD nD cD, .slice aT nT cT, .slice aS nS cS]) c 64 xs = none) := fun _ => rfl
  unfold floatsV
  refine walk [] [] hD Tryd.func34 rfl Tryd.ntmps34 res34 (by kernel_rfl) no_facts ?_
  simp (config := { maxSteps := 4000000 }) only [↓sx0, ↓sx1, ↓sx2, ↓sx3, ↓sx4, ↓sx5, ↓sx6, sx0, sx1, sx2, sx3, sx4, sx5, sx6, tf34, ev3_hold, sxo, sxc, sxp, sxq, sxr, sxs, sxl, sxm, Int.reduceBEq, Int.reduceBNe, Int.reduceLT, Int.reduceLE, Int.reduceEq, Int.reduceGT, Int.reduceGE, Int.reduceToNat, ↓reduceIte, List.reduceReplicate, Nat.reduceAdd, Nat.reduceSub, Nat.reduceMul, Nat.reduceLT, Nat.reduceLeDiff, Nat.reduceBEq, Nat.reduceEqDiff, dn]
  intro b1 b2 b3
  refine CallOb.pureH (fun w' hp => open_fn w' _ _ _ _ c [k] [t] [g] (hc0.hp hp) hsm (row_hp (E := 3) (xs := ints [k]) (by simp [cat, i1]) hp) (row_hp (E := 3) (xs := ints [t]) (by simp [cat, i1]) hp) (row_hp (E := 3) (xs := ints [g]) (by simp [cat, i1]) hp) (by simp)) ?_
  rintro r N rfl
  by_cases he : openE c [k] [t] [g] = 0
  · obtain ⟨hok, hcl, htl, _⟩ := openE_zero he
    have hk := hcl k (by simp)
    have ht := htl t (by simp)
    obtain ⟨K, hK⟩ : ∃ K : Nat, k = K := ⟨k.toNat, by omega⟩
    obtain ⟨T, hT⟩ : ∃ T : Nat, t = T := ⟨t.toNat, by omega⟩
    subst hK hT
    have hm := detM_water (v := (.agg #[I c.wide, I c.high, .slice aD nD cD, .slice aT nT cT, .slice aS nS cS])) hok hk.2 ht.2
    simp only [Int.toNat_natCast, vS, spc] at hm ⊢
    rw [he]
    refine ⟨?_⟩
    simp (config := { maxSteps := 4000000 }) only [↓sx0, ↓sx1, ↓sx2, ↓sx3, ↓sx4, ↓sx5, ↓sx6, sx0, sx1, sx2, sx3, sx4, sx5, sx6, tf34, ev3_hold, sxo, sxc, sxp, sxq, sxr, sxs, sxl, sxm, Int.reduceBEq, Int.reduceBNe, Int.reduceLT, Int.reduceLE, Int.reduceEq, Int.reduceGT, Int.reduceGE, Int.reduceToNat, ↓reduceIte, List.reduceReplicate, Nat.reduceAdd, Nat.reduceSub, Nat.reduceMul, Nat.reduceLT, Nat.reduceLeDiff, Nat.reduceBEq, Nat.reduceEqDiff, hm]
  · have e1 : (openE c [k] [t] [g] = 0) = False := eq_false he
    refine ⟨?_⟩
    simp (config := { maxSteps := 4000000 }) only [↓sx0, ↓sx1, ↓sx2, ↓sx3, ↓sx4, ↓sx5, ↓sx6, sx0, sx1, sx2, sx3, sx4, sx5, sx6, tf34, ev3_hold, sxo, sxc, sxp, sxq, sxr, sxs, sxl, sxm, Int.reduceBEq, Int.reduceBNe, Int.reduceLT, Int.reduceLE, Int.reduceEq, Int.reduceGT, Int.reduceGE, Int.reduceToNat, ↓reduceIte, List.reduceReplicate, Nat.reduceAdd, Nat.reduceSub, Nat.reduceMul, Nat.reduceLT, Nat.reduceLeDiff, Nat.reduceBEq, Nat.reduceEqDiff, e1]

theorem openEct {c : Cht} (a t : Int) : openE c [a] [t] [] = if c.okB then (if notCell c a || notTick c t then 1 else 0) else 10 := by
  unfold openE
  simp

theorem rwater_fn (w : World) (hw : Ways w) (v : Value) (c : Cht) (hc : ChOk w v c) (hsm : c.small) (k t : Int) :
    SX.Fn Tryd.prog 33 [v, I k, I t] w (fun _ => False) fun r N => r = waterV c k t := by
  have hc0 := hc
  have hD := detR_ok (X := fun _ => False) hw hc (fun _ _ => id)
  have hck := (detR_check (v := v) hsm).2
  obtain ⟨sD, sT, sS, rfl, hsD, hsT, hsS⟩ := hc
  obtain ⟨aT, nT, cT, rfl⟩ := hsT.shape
  have hnT := hsT.le spc_len (by omega)
  have hrT := hsT.rd0
  unfold waterV
  refine walk [] [(5, (ones [0, 1, 2, 3, 4, 5, 6, 7, 8, 10, 11, 12, 13, 14, 15, 16, 17, 18, 9, 19, 20, 21, 22] .fin))] hD Tryd.func33 rfl Tryd.ntmps33 res33 (by kernel_rfl) no_facts ?_
  rw [openEct]
  cases hok : c.okB with
  | false =>
    rw [hok] at hck
    simp (config := { maxSteps := 4000000 }) only [↓sx0, ↓sx1, ↓sx2, ↓sx3, ↓sx4, ↓sx5, ↓sx6, sx0, sx1, sx2, sx3, sx4, sx5, sx6, tf33, ev3_hold, sxo, sxc, sxp, sxq, sxr, sxs, sxl, sxm, Int.reduceBEq, Int.reduceBNe, Int.reduceLT, Int.reduceLE, Int.reduceEq, Int.reduceGT, Int.reduceGE, Int.reduceToNat, ↓reduceIte, List.reduceReplicate, Nat.reduceAdd, Nat.reduceSub, Nat.reduceMul, Nat.reduceLT, Nat.reduceLeDiff, Nat.reduceBEq, Nat.reduceEqDiff, hck]
    rfl
  | true =>
  have hok' := (okB_iff c).1 hok
  rw [hok] at hck
  have ic1 := isCell_iff hok' k
  have h60 := hok'.2.2.2.1.2
  have e5 : wr ((nT : Int) - 1) = (c.tide.length : Int) - 1 := (wrap_id (by omega)).trans (by omega)
  cases h1 : notCell c k with
  | true =>
    rw [h1] at ic1
    simp (config := { maxSteps := 4000000 }) only [↓sx0, ↓sx1, ↓sx2, ↓sx3, ↓sx4, ↓sx5, ↓sx6, sx0, sx1, sx2, sx3, sx4, sx5, sx6, tf33, ev3_hold, sxo, sxc, sxp, sxq, sxr, sxs, sxl, sxm, Int.reduceBEq, Int.reduceBNe, Int.reduceLT, Int.reduceLE, Int.reduceEq, Int.reduceGT, Int.reduceGE, Int.reduceToNat, ↓reduceIte, List.reduceReplicate, Nat.reduceAdd, Nat.reduceSub, Nat.reduceMul, Nat.reduceLT, Nat.reduceLeDiff, Nat.reduceBEq, Nat.reduceEqDiff, hck, detR_eq, ic1]
    rfl
  | false =>
  rw [h1] at ic1
  cases h2 : notTick c t with
  | true =>
    have h2' : inB t 0 ((c.tide.length : Int) - 1) = false := by unfold notTick at h2; simpa using h2
    simp (config := { maxSteps := 4000000 }) only [↓sx0, ↓sx1, ↓sx2, ↓sx3, ↓sx4, ↓sx5, ↓sx6, sx0, sx1, sx2, sx3, sx4, sx5, sx6, tf33, ev3_hold, sxo, sxc, sxp, sxq, sxr, sxs, sxl, sxm, Int.reduceBEq, Int.reduceBNe, Int.reduceLT, Int.reduceLE, Int.reduceEq, Int.reduceGT, Int.reduceGE, Int.reduceToNat, ↓reduceIte, List.reduceReplicate, Nat.reduceAdd, Nat.reduceSub, Nat.reduceMul, Nat.reduceLT, Nat.reduceLeDiff, Nat.reduceBEq, Nat.reduceEqDiff, hck, detR_eq, ic1, e5, h2']
    rfl
  | false =>
    have h2' : inB t 0 ((c.tide.length : Int) - 1) = true := by unfold notTick at h2; simpa using h2
    have hk : 0 ≤ k ∧ k ≤ (c.depth.length : Int) - 1 := by
      unfold notCell at h1
      rw [Bool.not_eq_false', inB_iff] at h1
      exact h1
    have ht := (inB_iff _ _ _).1 h2'
    obtain ⟨K, hK⟩ : ∃ K : Nat, k = K := ⟨k.toNat, by omega⟩
    obtain ⟨T, hT⟩ : ∃ T : Nat, t = T := ⟨t.toNat, by omega⟩
    subst hK hT
    simp only [Int.toNat_natCast]
    have hu : c.tide[T]? = some (c.tlo T, c.thi T) := (getD_at (show T < c.tide.length by omega) (0, 0))
    have hb := hok'.2.2.2.2.2.2.1 (c.tlo T, c.thi T) (List.mem_of_getElem? hu)
    simp only [] at hb
    have o1 : detR (.agg #[I c.wide, I c.high, sD, .slice aT nT cT, sS]) c 43 [.agg #[I c.wide, I c.high, sD, .slice aT nT cT, sS], I K, I T, I (c.tlo T)] = some (I (c.over K T (c.tlo T))) := detM_over (v := (.agg #[I c.wide, I c.high, sD, .slice aT nT cT, sS])) hok' (k := K) (t := T) (h := c.tlo T) (by omega) (by omega) (by omega)
    have o2 : detR (.agg #[I c.wide, I c.high, sD, .slice aT nT cT, sS]) c 43 [.agg #[I c.wide, I c.high, sD, .slice aT nT cT, sS], I K, I T, I (c.thi T)] = some (I (c.over K T (c.thi T))) := detM_over (v := (.agg #[I c.wide, I c.high, sD, .slice aT nT cT, sS])) hok' (k := K) (t := T) (h := c.thi T) (by omega) (by omega) (by omega)
    simp (config := { maxSteps := 4000000 }) only [↓sx0, ↓sx1, ↓sx2, ↓sx3, ↓sx4, ↓sx5, ↓sx6, sx0, sx1, sx2, sx3, sx4, sx5, sx6, tf33, ev3_hold, sxo, sxc, sxp, sxq, sxr, sxs, sxl, sxm, Int.reduceBEq, Int.reduceBNe, Int.reduceLT, Int.reduceLE, Int.reduceEq, Int.reduceGT, Int.reduceGE, Int.reduceToNat, ↓reduceIte, List.reduceReplicate, Nat.reduceAdd, Nat.reduceSub, Nat.reduceMul, Nat.reduceLT, Nat.reduceLeDiff, Nat.reduceBEq, Nat.reduceEqDiff, hck, detR_eq, ic1, e5, h2']
    refine at_f (hrT _) spc_len hu (o := 0) (x := I (c.tlo T)) rfl fun ad1 => ?_
    simp (config := { maxSteps := 4000000 }) only [↓sx0, ↓sx1, ↓sx2, ↓sx3, ↓sx4, ↓sx5, ↓sx6, sx0, sx1, sx2, sx3, sx4, sx5, sx6, tf33, ev3_hold, sxo, sxc, sxp, sxq, sxr, sxs, sxl, sxm, Int.reduceBEq, Int.reduceBNe, Int.reduceLT, Int.reduceLE, Int.reduceEq, Int.reduceGT, Int.reduceGE, Int.reduceToNat, ↓reduceIte, List.reduceReplicate, Nat.reduceAdd, Nat.reduceSub, Nat.reduceMul, Nat.reduceLT, Nat.reduceLeDiff, Nat.reduceBEq, Nat.reduceEqDiff, o1, o2]
    refine at_f (hrT _) spc_len hu (o := 1) (x := I (c.thi T)) rfl fun ad2 => ?_
    simp (config := { maxSteps := 4000000 }) only [↓sx0, ↓sx1, ↓sx2, ↓sx3, ↓sx4, ↓sx5, ↓sx6, sx0, sx1, sx2, sx3, sx4, sx5, sx6, tf33, ev3_hold, sxo, sxc, sxp, sxq, sxr, sxs, sxl, sxm, Int.reduceBEq, Int.reduceBNe, Int.reduceLT, Int.reduceLE, Int.reduceEq, Int.reduceGT, Int.reduceGE, Int.reduceToNat, ↓reduceIte, List.reduceReplicate, Nat.reduceAdd, Nat.reduceSub, Nat.reduceMul, Nat.reduceLT, Nat.reduceLeDiff, Nat.reduceBEq, Nat.reduceEqDiff, o1, o2, vS, spc]

theorem rfloats_fn (w : World) (hw : Ways w) (v : Value) (c : Cht) (hc : ChOk w v c) (hsm : c.small) (g k t : Int) :
    SX.Fn Tryd.prog 35 [v, I g, I k, I t] w (fun _ => False) fun r N => r = floatsV c g k t := by
  have hc0 := hc
  obtain ⟨sD, sT, sS, rfl, hsD, hsT, hsS⟩ := hc
  obtain ⟨aD, nD, cD, rfl⟩ := hsD.shape
  obtain ⟨aT, nT, cT, rfl⟩ := hsT.shape
  obtain ⟨aS, nS, cS, rfl⟩ := hsS.shape
  have e3 : openE c [k] [t] [g] = if openE c [k] [t] [] = 0 then (if notDraught g then 1 else 0) else openE c [k] [t] [] := by
    unfold openE
    cases c.okB <;> cases h1 : notCell c k <;> cases h2 : notTick c t <;> simp [h1, h2]
  refine walk [] [] (detC_ok _ _) Tryd.func35 rfl Tryd.ntmps35 res35 (by kernel_rfl) no_facts ?_
  have dn : (∀ xs, detC 33 xs = none) := fun _ => rfl
  simp (config := { maxSteps := 4000000 }) only [↓sx0, ↓sx1, ↓sx2, ↓sx3, ↓sx4, ↓sx5, ↓sx6, sx0, sx1, sx2, sx3, sx4, sx5, sx6, tf35, ev3_hold, sxo, sxc, sxp, sxq, sxr, sxs, sxl, sxm, Int.reduceBEq, Int.reduceBNe, Int.reduceLT, Int.reduceLE, Int.reduceEq, Int.reduceGT, Int.reduceGE, Int.reduceToNat, ↓reduceIte, List.reduceReplicate, Nat.reduceAdd, Nat.reduceSub, Nat.reduceMul, Nat.reduceLT, Nat.reduceLeDiff, Nat.reduceBEq, Nat.reduceEqDiff, dn]
  refine CallOb.pureH (fun w' hp => rwater_fn w' (hw.hp hp) _ c (hc0.hp hp) hsm k t) ?_
  rintro r N rfl
  unfold waterV floatsV
  rw [e3]
  by_cases he : openE c [k] [t] [] = 0
  · rw [if_pos he, if_pos he]
    cases hg : notDraught g with
    | true =>
      have h3 : inB g 1 100 = false := by unfold notDraught at hg; simpa using hg
      refine ⟨?_⟩
      simp (config := { maxSteps := 4000000 }) only [↓sx0, ↓sx1, ↓sx2, ↓sx3, ↓sx4, ↓sx5, ↓sx6, sx0, sx1, sx2, sx3, sx4, sx5, sx6, tf35, ev3_hold, sxo, sxc, sxp, sxq, sxr, sxs, sxl, sxm, Int.reduceBEq, Int.reduceBNe, Int.reduceLT, Int.reduceLE, Int.reduceEq, Int.reduceGT, Int.reduceGE, Int.reduceToNat, ↓reduceIte, List.reduceReplicate, Nat.reduceAdd, Nat.reduceSub, Nat.reduceMul, Nat.reduceLT, Nat.reduceLeDiff, Nat.reduceBEq, Nat.reduceEqDiff, detC_eq, h3, vS, spc]
    | false =>
      have h3 : inB g 1 100 = true := by unfold notDraught at hg; simpa using hg
      refine ⟨?_⟩
      simp (config := { maxSteps := 4000000 }) only [↓sx0, ↓sx1, ↓sx2, ↓sx3, ↓sx4, ↓sx5, ↓sx6, sx0, sx1, sx2, sx3, sx4, sx5, sx6, tf35, ev3_hold, sxo, sxc, sxp, sxq, sxr, sxs, sxl, sxm, Int.reduceBEq, Int.reduceBNe, Int.reduceLT, Int.reduceLE, Int.reduceEq, Int.reduceGT, Int.reduceGE, Int.reduceToNat, ↓reduceIte, List.reduceReplicate, Nat.reduceAdd, Nat.reduceSub, Nat.reduceMul, Nat.reduceLT, Nat.reduceLeDiff, Nat.reduceBEq, Nat.reduceEqDiff, detC_eq, h3, vS, spc]
  · rw [if_neg he, if_neg he, if_neg he]
    have e1 : (openE c [k] [t] [] = 0) = False := eq_false he
    refine ⟨?_⟩
    simp (config := { maxSteps := 4000000 }) only [↓sx0, ↓sx1, ↓sx2, ↓sx3, ↓sx4, ↓sx5, ↓sx6, sx0, sx1, sx2, sx3, sx4, sx5, sx6, tf35, ev3_hold, sxo, sxc, sxp, sxq, sxr, sxs, sxl, sxm, Int.reduceBEq, Int.reduceBNe, Int.reduceLT, Int.reduceLE, Int.reduceEq, Int.reduceGT, Int.reduceGE, Int.reduceToNat, ↓reduceIte, List.reduceReplicate, Nat.reduceAdd, Nat.reduceSub, Nat.reduceMul, Nat.reduceLT, Nat.reduceLeDiff, Nat.reduceBEq, Nat.reduceEqDiff, e1, vS, spc]

end Go.Proofs.YtcnjhgnlcnmagaaDoor

namespace Go.Proofs.YtcnjhgnlcnmagaaDoor
open Go.RowKit Go.SX
set_option maxRecDepth 20000
set_option maxHeartbeats 8000000
set_option linter.unusedSimpArgs false
set_option linter.unusedVariables false

/-! ### Windows of every chart, both texts -/

noncomputable def winOk (c : Cht) (r : Rmp) : Bool := c.okB && rampB c r
noncomputable def winE (c : Cht) (r : Rmp) : Int := if winOk c r then 0 else if c.okB then 11 else 10
noncomputable def winS (c : Cht) (r : Rmp) : List (Int × Int) := if winOk c r then winL (sureT c r) c.tide.length else []
noncomputable def winM (c : Cht) (r : Rmp) : List (Int × Int) := if winOk c r then winL (mayT c r) c.tide.length else []

def winPost (c : Cht) (r : Rmp) (q : Value) (N : List HO) : Prop := ∃ x y, q = .tuple #[x, y, I (winE c r)] ∧ Got x 37 2 spc (winS c r) N ∧ Got y 37 2 spc (winM c r) N

theorem winOk_iff (c : Cht) (r : Rmp) : winOk c r = true ↔ c.ok ∧ rampB c r = true := by
  unfold winOk
  rw [Bool.and_eq_true, okB_iff]

theorem win_post (c : Cht) (r : Rmp) (h : c.ok ∧ rampB c r = true) (q : Value) (N : List HO) (hq : ∃ x y, q = .tuple #[x, y, I 0] ∧ Got x 37 2 spc (winL (sureT c r) c.tide.length) N ∧ Got y 37 2 spc (winL (mayT c r) c.tide.length) N) : winPost c r q N := by
  have := (winOk_iff c r).2 h
  unfold winPost winE winS winM
  rw [this]
  exact hq

theorem win_bad (c : Cht) (r : Rmp) (h : ¬ (c.ok ∧ rampB c r = true)) (q : Value) (N : List HO) (hq : q = nil2 (if c.okB then 11 else 10)) : winPost c r q N := by
  have : winOk c r = false := by
    cases hb : winOk c r with
    | false => rfl
    | true => exact absurd ((winOk_iff c r).1 hb) h
  unfold winPost winE winS winM
  rw [this]
  exact ⟨_, _, hq, Got.nil _, Got.nil _⟩

theorem win_fn (w : World) (v : Value) (c : Cht) (r : Rmp) (hc : ChOk w v c) (hsm : c.small) : SX.Fn Tryd.prog 16 [v, rmv r] w (fun _ => False) (winPost c r) := by
  by_cases h : c.ok ∧ rampB c r = true
  · exact (windows_fn w v c r hc h.1 h.2 hsm).mono (win_post c r h)
  · exact (windows_bad w v c r hc hsm h).mono (win_bad c r h)

theorem rwin_fn (w : World) (hw : Ways w) (v : Value) (c : Cht) (r : Rmp) (hc : ChOk w v c) (hsm : c.small) : SX.Fn Tryd.prog 18 [v, rmv r] w (fun _ => False) (winPost c r) := by
  by_cases h : c.ok ∧ rampB c r = true
  · exact (rwindows_fn w hw v c r hc h.1 h.2 hsm).mono (win_post c r h)
  · exact (rwindows_bad w hw v c r hc hsm h).mono (win_bad c r h)

theorem got_ch {N : List HO} {c : Cht} {x y z : Value} (hx : Got x 3 1 i1 c.depth N) (hy : Got y 37 2 spc c.tide N) (hz : Got z 3 1 i1 c.swell N) {H : List HO} {w0 : Base} {w : World} (hm : ∀ h ∈ N, h ∈ H) (hp : Hp w0 H w) : ChOk w (.agg #[I c.wide, I c.high, x, y, z]) c :=
  ⟨_, _, _, rfl, hx.hp hm hp, hy.hp hm hp, hz.hp hm hp⟩

theorem winS_len (c : Cht) (r : Rmp) (h : c.few) : (winS c r).length ≤ 62 := by
  unfold winS
  have h2 := h.2.1
  split
  · exact Nat.le_trans (winL_len _ _) h2
  · simp
theorem winM_len (c : Cht) (r : Rmp) (h : c.few) : (winM c r).length ≤ 62 := by
  unfold winM
  have h2 := h.2.1
  split
  · exact Nat.le_trans (winL_len _ _) h2
  · simp

theorem chartWindows_fn (w : World) (hw : Ways w) (v : Value) (c : Cht) (hc : ChOk w v c) (r : Rmp) : SX.Fn Tryd.prog 3 [v, rmv r] w (fun _ => False) fun r N => r = .bool true := by
  have hc0 := hc
  obtain ⟨sD, sT, sS, rfl, hsD, hsT, hsS⟩ := hc
  obtain ⟨aD, nD, cD, rfl⟩ := hsD.shape
  obtain ⟨aT, nT, cT, rfl⟩ := hsT.shape
  obtain ⟨aS, nS, cS, rfl⟩ := hsS.shape
  unfold rmv
  refine walk [] [(3, (ones [0, 2, 1, 3, 4, 5, 6, 7, 8, 9, 10] .fin))] (det0_ok _ _) Tryd.func3 rfl Tryd.ntmps3 res3 (by kernel_rfl) no_facts ?_
  simp (config := { maxSteps := 4000000 }) only [↓sx0, ↓sx1, ↓sx2, ↓sx3, ↓sx4, ↓sx5, ↓sx6, sx0, sx1, sx2, sx3, sx4, sx5, sx6, tf3, ev3_hold, sxo, sxc, sxp, sxq, sxr, sxs, sxl, sxm, Int.reduceBEq, Int.reduceBNe, Int.reduceLT, Int.reduceLE, Int.reduceEq, Int.reduceGT, Int.reduceGE, Int.reduceToNat, ↓reduceIte, List.reduceReplicate, Nat.reduceAdd, Nat.reduceSub, Nat.reduceMul, Nat.reduceLT, Nat.reduceLeDiff, Nat.reduceBEq, Nat.reduceEqDiff, det0]
  refine CallOb.pureH (fun w' hp => vast_fn w' _ c (hc0.hp hp)) ?_
  rintro r0 N0 ⟨b, rfl, hb⟩
  refine ⟨?_⟩
  cases b with
  | true =>
    simp (config := { maxSteps := 4000000 }) only [↓sx0, ↓sx1, ↓sx2, ↓sx3, ↓sx4, ↓sx5, ↓sx6, sx0, sx1, sx2, sx3, sx4, sx5, sx6, tf3, ev3_hold, sxo, sxc, sxp, sxq, sxr, sxs, sxl, sxm, Int.reduceBEq, Int.reduceBNe, Int.reduceLT, Int.reduceLE, Int.reduceEq, Int.reduceGT, Int.reduceGE, Int.reduceToNat, ↓reduceIte, List.reduceReplicate, Nat.reduceAdd, Nat.reduceSub, Nat.reduceMul, Nat.reduceLT, Nat.reduceLeDiff, Nat.reduceBEq, Nat.reduceEqDiff, det0]
    refine CallOb.pureH (fun w' hp => works_fn w' (hw.hp hp)) ?_
    rintro r1 N1 rfl
    refine ⟨?_⟩
    simp (config := { maxSteps := 4000000 }) only [↓sx0, ↓sx1, ↓sx2, ↓sx3, ↓sx4, ↓sx5, ↓sx6, sx0, sx1, sx2, sx3, sx4, sx5, sx6, tf3, ev3_hold, sxo, sxc, sxp, sxq, sxr, sxs, sxl, sxm, Int.reduceBEq, Int.reduceBNe, Int.reduceLT, Int.reduceLE, Int.reduceEq, Int.reduceGT, Int.reduceGE, Int.reduceToNat, ↓reduceIte, List.reduceReplicate, Nat.reduceAdd, Nat.reduceSub, Nat.reduceMul, Nat.reduceLT, Nat.reduceLeDiff, Nat.reduceBEq, Nat.reduceEqDiff]
  | false =>
  have hf := (hb rfl).1
  have hsm := few_small hf
  have l1 := winS_len c r hf
  have l2 := winM_len c r hf
  simp (config := { maxSteps := 4000000 }) only [↓sx0, ↓sx1, ↓sx2, ↓sx3, ↓sx4, ↓sx5, ↓sx6, sx0, sx1, sx2, sx3, sx4, sx5, sx6, tf3, ev3_hold, sxo, sxc, sxp, sxq, sxr, sxs, sxl, sxm, Int.reduceBEq, Int.reduceBNe, Int.reduceLT, Int.reduceLE, Int.reduceEq, Int.reduceGT, Int.reduceGE, Int.reduceToNat, ↓reduceIte, List.reduceReplicate, Nat.reduceAdd, Nat.reduceSub, Nat.reduceMul, Nat.reduceLT, Nat.reduceLeDiff, Nat.reduceBEq, Nat.reduceEqDiff, det0]
  refine CallOb.pureH (fun w' hp => copy_fn w' _ c (hc0.hp hp) hf) ?_
  rintro r1 N1 ⟨x1, y1, z1, rfl, gx, gy, gz⟩
  refine ⟨?_⟩
  simp (config := { maxSteps := 4000000 }) only [↓sx0, ↓sx1, ↓sx2, ↓sx3, ↓sx4, ↓sx5, ↓sx6, sx0, sx1, sx2, sx3, sx4, sx5, sx6, tf3, ev3_hold, sxo, sxc, sxp, sxq, sxr, sxs, sxl, sxm, Int.reduceBEq, Int.reduceBNe, Int.reduceLT, Int.reduceLE, Int.reduceEq, Int.reduceGT, Int.reduceGE, Int.reduceToNat, ↓reduceIte, List.reduceReplicate, Nat.reduceAdd, Nat.reduceSub, Nat.reduceMul, Nat.reduceLT, Nat.reduceLeDiff, Nat.reduceBEq, Nat.reduceEqDiff, det0]
  refine CallOb.pureH (fun w' hp => win_fn w' _ c r (got_ch gx gy gz (fun h hh => by simp [hh]) hp) hsm) ?_
  rintro r2 N2 ⟨x2, y2, rfl, gx2, gy2⟩
  refine ⟨?_⟩
  simp (config := { maxSteps := 4000000 }) only [↓sx0, ↓sx1, ↓sx2, ↓sx3, ↓sx4, ↓sx5, ↓sx6, sx0, sx1, sx2, sx3, sx4, sx5, sx6, tf3, ev3_hold, sxo, sxc, sxp, sxq, sxr, sxs, sxl, sxm, Int.reduceBEq, Int.reduceBNe, Int.reduceLT, Int.reduceLE, Int.reduceEq, Int.reduceGT, Int.reduceGE, Int.reduceToNat, ↓reduceIte, List.reduceReplicate, Nat.reduceAdd, Nat.reduceSub, Nat.reduceMul, Nat.reduceLT, Nat.reduceLeDiff, Nat.reduceBEq, Nat.reduceEqDiff, det0]
  refine CallOb.pureH (fun w' hp => rwin_fn w' (hw.hp hp) _ c r (hc0.hp hp) hsm) ?_
  rintro r3 N3 ⟨x3, y3, rfl, gx3, gy3⟩
  refine ⟨?_⟩
  simp (config := { maxSteps := 4000000 }) only [↓sx0, ↓sx1, ↓sx2, ↓sx3, ↓sx4, ↓sx5, ↓sx6, sx0, sx1, sx2, sx3, sx4, sx5, sx6, tf3, ev3_hold, sxo, sxc, sxp, sxq, sxr, sxs, sxl, sxm, Int.reduceBEq, Int.reduceBNe, Int.reduceLT, Int.reduceLE, Int.reduceEq, Int.reduceGT, Int.reduceGE, Int.reduceToNat, ↓reduceIte, List.reduceReplicate, Nat.reduceAdd, Nat.reduceSub, Nat.reduceMul, Nat.reduceLT, Nat.reduceLeDiff, Nat.reduceBEq, Nat.reduceEqDiff, det0]
  refine CallOb.pureH (fun w' hp => sameS_fn w' _ _ _ _ (gx2.hp (fun h hh => by simp [hh]) hp) (gx3.hp (fun h hh => by simp [hh]) hp) (by omega)) ?_
  rintro r4 N4 rfl
  refine ⟨?_⟩
  rw [decide_eq_true rfl]
  simp (config := { maxSteps := 4000000 }) only [↓sx0, ↓sx1, ↓sx2, ↓sx3, ↓sx4, ↓sx5, ↓sx6, sx0, sx1, sx2, sx3, sx4, sx5, sx6, tf3, ev3_hold, sxo, sxc, sxp, sxq, sxr, sxs, sxl, sxm, Int.reduceBEq, Int.reduceBNe, Int.reduceLT, Int.reduceLE, Int.reduceEq, Int.reduceGT, Int.reduceGE, Int.reduceToNat, ↓reduceIte, List.reduceReplicate, Nat.reduceAdd, Nat.reduceSub, Nat.reduceMul, Nat.reduceLT, Nat.reduceLeDiff, Nat.reduceBEq, Nat.reduceEqDiff, det0]
  refine CallOb.pureH (fun w' hp => sameS_fn w' _ _ _ _ (gy2.hp (fun h hh => by simp [hh]) hp) (gy3.hp (fun h hh => by simp [hh]) hp) (by omega)) ?_
  rintro r5 N5 rfl
  refine ⟨?_⟩
  rw [decide_eq_true rfl]
  simp (config := { maxSteps := 4000000 }) only [↓sx0, ↓sx1, ↓sx2, ↓sx3, ↓sx4, ↓sx5, ↓sx6, sx0, sx1, sx2, sx3, sx4, sx5, sx6, tf3, ev3_hold, sxo, sxc, sxp, sxq, sxr, sxs, sxl, sxm, Int.reduceBEq, Int.reduceBNe, Int.reduceLT, Int.reduceLE, Int.reduceEq, Int.reduceGT, Int.reduceGE, Int.reduceToNat, ↓reduceIte, List.reduceReplicate, Nat.reduceAdd, Nat.reduceSub, Nat.reduceMul, Nat.reduceLT, Nat.reduceLeDiff, Nat.reduceBEq, Nat.reduceEqDiff, det0]
  refine CallOb.pureH (fun w' hp => works_fn w' (hw.hp hp)) ?_
  rintro r6 N6 rfl
  refine ⟨?_⟩
  simp (config := { maxSteps := 4000000 }) only [↓sx0, ↓sx1, ↓sx2, ↓sx3, ↓sx4, ↓sx5, ↓sx6, sx0, sx1, sx2, sx3, sx4, sx5, sx6, tf3, ev3_hold, sxo, sxc, sxp, sxq, sxr, sxs, sxl, sxm, Int.reduceBEq, Int.reduceBNe, Int.reduceLT, Int.reduceLE, Int.reduceEq, Int.reduceGT, Int.reduceGE, Int.reduceToNat, ↓reduceIte, List.reduceReplicate, Nat.reduceAdd, Nat.reduceSub, Nat.reduceMul, Nat.reduceLT, Nat.reduceLeDiff, Nat.reduceBEq, Nat.reduceEqDiff]

end Go.Proofs.YtcnjhgnlcnmagaaDoor

namespace Go.Proofs.YtcnjhgnlcnmagaaDoor
open Go.RowKit Go.SX
set_option maxRecDepth 20000
set_option maxHeartbeats 8000000
set_option linter.unusedSimpArgs false
set_option linter.unusedVariables false

theorem nextE_shape (c : Cht) (k d : Int) : ∃ n e, nextE c k d = .tuple #[I n, I e] := by
  unfold nextE
  cases c.okB <;> cases (notCell c k || !inB d 0 5) <;> cases bes c.W c.H k.toNat d.toNat <;> exact ⟨_, _, rfl⟩

theorem waterV_shape (c : Cht) (k t : Int) : ∃ a b e, waterV c k t = .tuple #[.agg #[I a, I b], I e] := by
  unfold waterV vS
  split <;> exact ⟨_, _, _, rfl⟩

theorem floatsV_shape (c : Cht) (g k t : Int) : ∃ a b e, floatsV c g k t = .tuple #[.bool a, .bool b, I e] := by
  unfold floatsV
  split <;> exact ⟨_, _, _, rfl⟩

/-- Apart, by both texts. -/
def apartPost (c : Cht) (a b : Int) (r : Value) (N : List HO) : Prop := (openE c [a, b] [] [] ≠ 0 ∧ r = .tuple #[I 0, I (openE c [a, b] [] [])]) ∨ (openE c [a, b] [] [] = 0 ∧ ∃ d : Nat, r = .tuple #[I d, I 0] ∧ isD c.W c.H a.toNat b.toNat d)

theorem apartPost_uniq {c : Cht} {a b : Int} {r s : Value} {N M : List HO} (h : apartPost c a b r N) (k : apartPost c a b s M) : ∃ n e, r = .tuple #[I n, I e] ∧ s = .tuple #[I n, I e] := by
  rcases h with ⟨h1, rfl⟩ | ⟨h1, d, rfl, hd⟩ <;> rcases k with ⟨k1, rfl⟩ | ⟨k1, d', rfl, hd'⟩
  · exact ⟨_, _, rfl, rfl⟩
  · exact absurd k1 h1
  · exact absurd h1 k1
  · obtain rfl := isD_uniq hd hd'
    exact ⟨_, _, rfl, rfl⟩

theorem chartCells_fn (w : World) (hw : Ways w) (v : Value) (c : Cht) (hc : ChOk w v c) (a b : Int) : SX.Fn Tryd.prog 5 [v, I a, I b] w (fun _ => False) fun r N => r = .bool true := by
  have hc0 := hc
  obtain ⟨sD, sT, sS, rfl, hsD, hsT, hsS⟩ := hc
  obtain ⟨aD, nD, cD, rfl⟩ := hsD.shape
  obtain ⟨aT, nT, cT, rfl⟩ := hsT.shape
  obtain ⟨aS, nS, cS, rfl⟩ := hsS.shape
  refine walk [] [(8, (ones [0, 2, 1, 3, 4, 5, 6, 7, 8, 9, 10, 11, 12, 13, 14, 15, 16, 17, 18, 19, 20, 21, 22, 23, 24, 25, 26, 27, 28] .fin))] (det0_ok _ _) Tryd.func5 rfl Tryd.ntmps5 res5 (by kernel_rfl) no_facts ?_
  simp (config := { maxSteps := 4000000 }) only [↓sx0, ↓sx1, ↓sx2, ↓sx3, ↓sx4, ↓sx5, ↓sx6, sx0, sx1, sx2, sx3, sx4, sx5, sx6, tf5, ev3_hold, sxo, sxc, sxp, sxq, sxr, sxs, sxl, sxm, Int.reduceBEq, Int.reduceBNe, Int.reduceLT, Int.reduceLE, Int.reduceEq, Int.reduceGT, Int.reduceGE, Int.reduceToNat, ↓reduceIte, List.reduceReplicate, Nat.reduceAdd, Nat.reduceSub, Nat.reduceMul, Nat.reduceLT, Nat.reduceLeDiff, Nat.reduceBEq, Nat.reduceEqDiff, det0]
  refine CallOb.pureH (fun w' hp => vast_fn w' _ c (hc0.hp hp)) ?_
  rintro r0 N0 ⟨t, rfl, hb⟩
  cases t with
  | true =>
    refine ⟨?_⟩
    simp (config := { maxSteps := 4000000 }) only [↓sx0, ↓sx1, ↓sx2, ↓sx3, ↓sx4, ↓sx5, ↓sx6, sx0, sx1, sx2, sx3, sx4, sx5, sx6, tf5, ev3_hold, sxo, sxc, sxp, sxq, sxr, sxs, sxl, sxm, Int.reduceBEq, Int.reduceBNe, Int.reduceLT, Int.reduceLE, Int.reduceEq, Int.reduceGT, Int.reduceGE, Int.reduceToNat, ↓reduceIte, List.reduceReplicate, Nat.reduceAdd, Nat.reduceSub, Nat.reduceMul, Nat.reduceLT, Nat.reduceLeDiff, Nat.reduceBEq, Nat.reduceEqDiff, det0]
    refine CallOb.pureH (fun w' hp => works_fn w' (hw.hp hp)) ?_
    rintro r1 N1 rfl
    refine ⟨?_⟩
    simp (config := { maxSteps := 4000000 }) only [↓sx0, ↓sx1, ↓sx2, ↓sx3, ↓sx4, ↓sx5, ↓sx6, sx0, sx1, sx2, sx3, sx4, sx5, sx6, tf5, ev3_hold, sxo, sxc, sxp, sxq, sxr, sxs, sxl, sxm, Int.reduceBEq, Int.reduceBNe, Int.reduceLT, Int.reduceLE, Int.reduceEq, Int.reduceGT, Int.reduceGE, Int.reduceToNat, ↓reduceIte, List.reduceReplicate, Nat.reduceAdd, Nat.reduceSub, Nat.reduceMul, Nat.reduceLT, Nat.reduceLeDiff, Nat.reduceBEq, Nat.reduceEqDiff]
  | false =>
  have hf := (hb rfl).1
  have hsm := few_small hf
  refine ⟨?_⟩
  simp (config := { maxSteps := 4000000 }) only [↓sx0, ↓sx1, ↓sx2, ↓sx3, ↓sx4, ↓sx5, ↓sx6, sx0, sx1, sx2, sx3, sx4, sx5, sx6, tf5, ev3_hold, sxo, sxc, sxp, sxq, sxr, sxs, sxl, sxm, Int.reduceBEq, Int.reduceBNe, Int.reduceLT, Int.reduceLE, Int.reduceEq, Int.reduceGT, Int.reduceGE, Int.reduceToNat, ↓reduceIte, List.reduceReplicate, Nat.reduceAdd, Nat.reduceSub, Nat.reduceMul, Nat.reduceLT, Nat.reduceLeDiff, Nat.reduceBEq, Nat.reduceEqDiff, det0]
  refine CallOb.pureH (fun w' hp => copy_fn w' _ c (hc0.hp hp) hf) ?_
  rintro r1 N1 ⟨x1, y1, z1, rfl, gx, gy, gz⟩
  have g1 := gx.shape
  obtain ⟨a1, p1, rfl⟩ := g1
  have g2 := gy.shape
  obtain ⟨a2, p2, rfl⟩ := g2
  have g3 := gz.shape
  obtain ⟨a3, p3, rfl⟩ := g3
  refine ⟨?_⟩
  simp (config := { maxSteps := 4000000 }) only [↓sx0, ↓sx1, ↓sx2, ↓sx3, ↓sx4, ↓sx5, ↓sx6, sx0, sx1, sx2, sx3, sx4, sx5, sx6, tf5, ev3_hold, sxo, sxc, sxp, sxq, sxr, sxs, sxl, sxm, Int.reduceBEq, Int.reduceBNe, Int.reduceLT, Int.reduceLE, Int.reduceEq, Int.reduceGT, Int.reduceGE, Int.reduceToNat, ↓reduceIte, List.reduceReplicate, Nat.reduceAdd, Nat.reduceSub, Nat.reduceMul, Nat.reduceLT, Nat.reduceLeDiff, Nat.reduceBEq, Nat.reduceEqDiff, det0]
  refine CallOb.pureH (fun w' hp => next1_fn w' (hw.hp hp) _ c (got_ch gx gy gz (fun h hh => by simp [hh]) hp) hsm a b) ?_
  intro r2 N2 hr2
  have h2 := nextE_shape c a b
  obtain ⟨n2, e2, h2⟩ := h2
  rw [h2] at hr2
  subst hr2
  refine ⟨?_⟩
  simp (config := { maxSteps := 4000000 }) only [↓sx0, ↓sx1, ↓sx2, ↓sx3, ↓sx4, ↓sx5, ↓sx6, sx0, sx1, sx2, sx3, sx4, sx5, sx6, tf5, ev3_hold, sxo, sxc, sxp, sxq, sxr, sxs, sxl, sxm, Int.reduceBEq, Int.reduceBNe, Int.reduceLT, Int.reduceLE, Int.reduceEq, Int.reduceGT, Int.reduceGE, Int.reduceToNat, ↓reduceIte, List.reduceReplicate, Nat.reduceAdd, Nat.reduceSub, Nat.reduceMul, Nat.reduceLT, Nat.reduceLeDiff, Nat.reduceBEq, Nat.reduceEqDiff, det0]
  refine CallOb.pureH (fun w' hp => rnext_fn w' (hw.hp hp) _ c (hc0.hp hp) hsm a b) ?_
  intro r3 N3 hr3
  rw [h2] at hr3
  subst hr3
  refine ⟨?_⟩
  simp (config := { maxSteps := 4000000 }) only [↓sx0, ↓sx1, ↓sx2, ↓sx3, ↓sx4, ↓sx5, ↓sx6, sx0, sx1, sx2, sx3, sx4, sx5, sx6, tf5, ev3_hold, sxo, sxc, sxp, sxq, sxr, sxs, sxl, sxm, Int.reduceBEq, Int.reduceBNe, Int.reduceLT, Int.reduceLE, Int.reduceEq, Int.reduceGT, Int.reduceGE, Int.reduceToNat, ↓reduceIte, List.reduceReplicate, Nat.reduceAdd, Nat.reduceSub, Nat.reduceMul, Nat.reduceLT, Nat.reduceLeDiff, Nat.reduceBEq, Nat.reduceEqDiff, det0]
  refine CallOb.pureH (fun w' hp => apart_fn w' (hw.hp hp) _ c (got_ch gx gy gz (fun h hh => by simp [hh]) hp) hsm a b) ?_
  intro r4 N4 h4
  have k4 := apartPost_uniq (N := []) (M := []) h4 h4
  obtain ⟨n4, e4, h4', _⟩ := k4
  subst h4'
  refine ⟨?_⟩
  simp (config := { maxSteps := 4000000 }) only [↓sx0, ↓sx1, ↓sx2, ↓sx3, ↓sx4, ↓sx5, ↓sx6, sx0, sx1, sx2, sx3, sx4, sx5, sx6, tf5, ev3_hold, sxo, sxc, sxp, sxq, sxr, sxs, sxl, sxm, Int.reduceBEq, Int.reduceBNe, Int.reduceLT, Int.reduceLE, Int.reduceEq, Int.reduceGT, Int.reduceGE, Int.reduceToNat, ↓reduceIte, List.reduceReplicate, Nat.reduceAdd, Nat.reduceSub, Nat.reduceMul, Nat.reduceLT, Nat.reduceLeDiff, Nat.reduceBEq, Nat.reduceEqDiff, det0]
  refine CallOb.pureH (fun w' hp => rapart_fn w' (hw.hp hp) _ c (hc0.hp hp) hsm a b) ?_
  intro r5 N5 h5
  have k5 := apartPost_uniq (N := []) (M := []) h4 h5
  obtain ⟨n5, e5, h5', h5''⟩ := k5
  subst h5''
  simp only [Value.tuple.injEq, Array.mk.injEq, List.cons.injEq, Value.int.injEq, true_and, and_true] at h5'
  obtain ⟨rfl, rfl⟩ := h5'
  refine ⟨?_⟩
  simp (config := { maxSteps := 4000000 }) only [↓sx0, ↓sx1, ↓sx2, ↓sx3, ↓sx4, ↓sx5, ↓sx6, sx0, sx1, sx2, sx3, sx4, sx5, sx6, tf5, ev3_hold, sxo, sxc, sxp, sxq, sxr, sxs, sxl, sxm, Int.reduceBEq, Int.reduceBNe, Int.reduceLT, Int.reduceLE, Int.reduceEq, Int.reduceGT, Int.reduceGE, Int.reduceToNat, ↓reduceIte, List.reduceReplicate, Nat.reduceAdd, Nat.reduceSub, Nat.reduceMul, Nat.reduceLT, Nat.reduceLeDiff, Nat.reduceBEq, Nat.reduceEqDiff, det0]
  refine CallOb.pureH (fun w' hp => check_fn w' _ c (got_ch gx gy gz (fun h hh => by simp [hh]) hp) hsm) ?_
  rintro r6 N6 rfl
  refine ⟨?_⟩
  simp (config := { maxSteps := 4000000 }) only [↓sx0, ↓sx1, ↓sx2, ↓sx3, ↓sx4, ↓sx5, ↓sx6, sx0, sx1, sx2, sx3, sx4, sx5, sx6, tf5, ev3_hold, sxo, sxc, sxp, sxq, sxr, sxs, sxl, sxm, Int.reduceBEq, Int.reduceBNe, Int.reduceLT, Int.reduceLE, Int.reduceEq, Int.reduceGT, Int.reduceGE, Int.reduceToNat, ↓reduceIte, List.reduceReplicate, Nat.reduceAdd, Nat.reduceSub, Nat.reduceMul, Nat.reduceLT, Nat.reduceLeDiff, Nat.reduceBEq, Nat.reduceEqDiff, det0]
  refine CallOb.pureH (fun w' hp => rcheck_fn w' _ c (hc0.hp hp) hsm) ?_
  rintro r7 N7 rfl
  refine ⟨?_⟩
  simp (config := { maxSteps := 4000000 }) only [↓sx0, ↓sx1, ↓sx2, ↓sx3, ↓sx4, ↓sx5, ↓sx6, sx0, sx1, sx2, sx3, sx4, sx5, sx6, tf5, ev3_hold, sxo, sxc, sxp, sxq, sxr, sxs, sxl, sxm, Int.reduceBEq, Int.reduceBNe, Int.reduceLT, Int.reduceLE, Int.reduceEq, Int.reduceGT, Int.reduceGE, Int.reduceToNat, ↓reduceIte, List.reduceReplicate, Nat.reduceAdd, Nat.reduceSub, Nat.reduceMul, Nat.reduceLT, Nat.reduceLeDiff, Nat.reduceBEq, Nat.reduceEqDiff, det0]
  refine CallOb.pureH (fun w' hp => works_fn w' (hw.hp hp)) ?_
  rintro r8 N8 rfl
  refine ⟨?_⟩
  simp (config := { maxSteps := 4000000 }) only [↓sx0, ↓sx1, ↓sx2, ↓sx3, ↓sx4, ↓sx5, ↓sx6, sx0, sx1, sx2, sx3, sx4, sx5, sx6, tf5, ev3_hold, sxo, sxc, sxp, sxq, sxr, sxs, sxl, sxm, Int.reduceBEq, Int.reduceBNe, Int.reduceLT, Int.reduceLE, Int.reduceEq, Int.reduceGT, Int.reduceGE, Int.reduceToNat, ↓reduceIte, List.reduceReplicate, Nat.reduceAdd, Nat.reduceSub, Nat.reduceMul, Nat.reduceLT, Nat.reduceLeDiff, Nat.reduceBEq, Nat.reduceEqDiff]

end Go.Proofs.YtcnjhgnlcnmagaaDoor

namespace Go.Proofs.YtcnjhgnlcnmagaaDoor
open Go.RowKit Go.SX
set_option maxRecDepth 20000
set_option maxHeartbeats 8000000
set_option linter.unusedSimpArgs false
set_option linter.unusedVariables false

theorem chartFloats_fn (w : World) (hw : Ways w) (v : Value) (c : Cht) (hc : ChOk w v c) (g k t : Int) : SX.Fn Tryd.prog 7 [v, .agg #[I g, I k, I t]] w (fun _ => False) fun r N => r = .bool true := by
  have hc0 := hc
  obtain ⟨sD, sT, sS, rfl, hsD, hsT, hsS⟩ := hc
  obtain ⟨aD, nD, cD, rfl⟩ := hsD.shape
  obtain ⟨aT, nT, cT, rfl⟩ := hsT.shape
  obtain ⟨aS, nS, cS, rfl⟩ := hsS.shape
  refine walk [] [] (det0_ok _ _) Tryd.func7 rfl Tryd.ntmps7 res7 (by kernel_rfl) no_facts ?_
  simp (config := { maxSteps := 4000000 }) only [↓sx0, ↓sx1, ↓sx2, ↓sx3, ↓sx4, ↓sx5, ↓sx6, sx0, sx1, sx2, sx3, sx4, sx5, sx6, tf7, ev3_hold, sxo, sxc, sxp, sxq, sxr, sxs, sxl, sxm, Int.reduceBEq, Int.reduceBNe, Int.reduceLT, Int.reduceLE, Int.reduceEq, Int.reduceGT, Int.reduceGE, Int.reduceToNat, ↓reduceIte, List.reduceReplicate, Nat.reduceAdd, Nat.reduceSub, Nat.reduceMul, Nat.reduceLT, Nat.reduceLeDiff, Nat.reduceBEq, Nat.reduceEqDiff, det0]
  refine CallOb.pureH (fun w' hp => vast_fn w' _ c (hc0.hp hp)) ?_
  rintro r0 N0 ⟨t0, rfl, hb⟩
  cases t0 with
  | true =>
    refine ⟨?_⟩
    simp (config := { maxSteps := 4000000 }) only [↓sx0, ↓sx1, ↓sx2, ↓sx3, ↓sx4, ↓sx5, ↓sx6, sx0, sx1, sx2, sx3, sx4, sx5, sx6, tf7, ev3_hold, sxo, sxc, sxp, sxq, sxr, sxs, sxl, sxm, Int.reduceBEq, Int.reduceBNe, Int.reduceLT, Int.reduceLE, Int.reduceEq, Int.reduceGT, Int.reduceGE, Int.reduceToNat, ↓reduceIte, List.reduceReplicate, Nat.reduceAdd, Nat.reduceSub, Nat.reduceMul, Nat.reduceLT, Nat.reduceLeDiff, Nat.reduceBEq, Nat.reduceEqDiff, det0]
    refine CallOb.pureH (fun w' hp => works_fn w' (hw.hp hp)) ?_
    rintro r1 N1 rfl
    refine ⟨?_⟩
    simp (config := { maxSteps := 4000000 }) only [↓sx0, ↓sx1, ↓sx2, ↓sx3, ↓sx4, ↓sx5, ↓sx6, sx0, sx1, sx2, sx3, sx4, sx5, sx6, tf7, ev3_hold, sxo, sxc, sxp, sxq, sxr, sxs, sxl, sxm, Int.reduceBEq, Int.reduceBNe, Int.reduceLT, Int.reduceLE, Int.reduceEq, Int.reduceGT, Int.reduceGE, Int.reduceToNat, ↓reduceIte, List.reduceReplicate, Nat.reduceAdd, Nat.reduceSub, Nat.reduceMul, Nat.reduceLT, Nat.reduceLeDiff, Nat.reduceBEq, Nat.reduceEqDiff]
  | false =>
  have hf := (hb rfl).1
  have hsm := few_small hf
  refine ⟨?_⟩
  simp (config := { maxSteps := 4000000 }) only [↓sx0, ↓sx1, ↓sx2, ↓sx3, ↓sx4, ↓sx5, ↓sx6, sx0, sx1, sx2, sx3, sx4, sx5, sx6, tf7, ev3_hold, sxo, sxc, sxp, sxq, sxr, sxs, sxl, sxm, Int.reduceBEq, Int.reduceBNe, Int.reduceLT, Int.reduceLE, Int.reduceEq, Int.reduceGT, Int.reduceGE, Int.reduceToNat, ↓reduceIte, List.reduceReplicate, Nat.reduceAdd, Nat.reduceSub, Nat.reduceMul, Nat.reduceLT, Nat.reduceLeDiff, Nat.reduceBEq, Nat.reduceEqDiff, det0]
  refine CallOb.pureH (fun w' hp => copy_fn w' _ c (hc0.hp hp) hf) ?_
  rintro r1 N1 ⟨x1, y1, z1, rfl, gx, gy, gz⟩
  have g1 := gx.shape
  obtain ⟨a1, p1, rfl⟩ := g1
  have g2 := gy.shape
  obtain ⟨a2, p2, rfl⟩ := g2
  have g3 := gz.shape
  obtain ⟨a3, p3, rfl⟩ := g3
  refine ⟨?_⟩
  simp (config := { maxSteps := 4000000 }) only [↓sx0, ↓sx1, ↓sx2, ↓sx3, ↓sx4, ↓sx5, ↓sx6, sx0, sx1, sx2, sx3, sx4, sx5, sx6, tf7, ev3_hold, sxo, sxc, sxp, sxq, sxr, sxs, sxl, sxm, Int.reduceBEq, Int.reduceBNe, Int.reduceLT, Int.reduceLE, Int.reduceEq, Int.reduceGT, Int.reduceGE, Int.reduceToNat, ↓reduceIte, List.reduceReplicate, Nat.reduceAdd, Nat.reduceSub, Nat.reduceMul, Nat.reduceLT, Nat.reduceLeDiff, Nat.reduceBEq, Nat.reduceEqDiff, det0]
  have hwv := waterV_shape c k t
  obtain ⟨wa, wb, we, hwv⟩ := hwv
  have hfv := floatsV_shape c g k t
  obtain ⟨fa, fb, fe, hfv⟩ := hfv
  refine CallOb.pureH (fun w' hp => water1_fn w' _ c (got_ch gx gy gz (fun h hh => by simp [hh]) hp) hsm k t) ?_
  intro r2 N2 h2
  rw [hwv] at h2
  subst h2
  refine ⟨?_⟩
  simp (config := { maxSteps := 4000000 }) only [↓sx0, ↓sx1, ↓sx2, ↓sx3, ↓sx4, ↓sx5, ↓sx6, sx0, sx1, sx2, sx3, sx4, sx5, sx6, tf7, ev3_hold, sxo, sxc, sxp, sxq, sxr, sxs, sxl, sxm, Int.reduceBEq, Int.reduceBNe, Int.reduceLT, Int.reduceLE, Int.reduceEq, Int.reduceGT, Int.reduceGE, Int.reduceToNat, ↓reduceIte, List.reduceReplicate, Nat.reduceAdd, Nat.reduceSub, Nat.reduceMul, Nat.reduceLT, Nat.reduceLeDiff, Nat.reduceBEq, Nat.reduceEqDiff, det0]
  refine CallOb.pureH (fun w' hp => rwater_fn w' (hw.hp hp) _ c (hc0.hp hp) hsm k t) ?_
  intro r3 N3 h3
  rw [hwv] at h3
  subst h3
  refine ⟨?_⟩
  simp (config := { maxSteps := 4000000 }) only [↓sx0, ↓sx1, ↓sx2, ↓sx3, ↓sx4, ↓sx5, ↓sx6, sx0, sx1, sx2, sx3, sx4, sx5, sx6, tf7, ev3_hold, sxo, sxc, sxp, sxq, sxr, sxs, sxl, sxm, Int.reduceBEq, Int.reduceBNe, Int.reduceLT, Int.reduceLE, Int.reduceEq, Int.reduceGT, Int.reduceGE, Int.reduceToNat, ↓reduceIte, List.reduceReplicate, Nat.reduceAdd, Nat.reduceSub, Nat.reduceMul, Nat.reduceLT, Nat.reduceLeDiff, Nat.reduceBEq, Nat.reduceEqDiff, det0]
  refine CallOb.pureH (fun w' hp => floats1_fn w' _ c (got_ch gx gy gz (fun h hh => by simp [hh]) hp) hsm g k t) ?_
  intro r4 N4 h4
  rw [hfv] at h4
  subst h4
  refine ⟨?_⟩
  simp (config := { maxSteps := 4000000 }) only [↓sx0, ↓sx1, ↓sx2, ↓sx3, ↓sx4, ↓sx5, ↓sx6, sx0, sx1, sx2, sx3, sx4, sx5, sx6, tf7, ev3_hold, sxo, sxc, sxp, sxq, sxr, sxs, sxl, sxm, Int.reduceBEq, Int.reduceBNe, Int.reduceLT, Int.reduceLE, Int.reduceEq, Int.reduceGT, Int.reduceGE, Int.reduceToNat, ↓reduceIte, List.reduceReplicate, Nat.reduceAdd, Nat.reduceSub, Nat.reduceMul, Nat.reduceLT, Nat.reduceLeDiff, Nat.reduceBEq, Nat.reduceEqDiff, det0]
  refine CallOb.pureH (fun w' hp => rfloats_fn w' (hw.hp hp) _ c (hc0.hp hp) hsm g k t) ?_
  intro r5 N5 h5
  rw [hfv] at h5
  subst h5
  refine ⟨?_⟩
  simp (config := { maxSteps := 4000000 }) only [↓sx0, ↓sx1, ↓sx2, ↓sx3, ↓sx4, ↓sx5, ↓sx6, sx0, sx1, sx2, sx3, sx4, sx5, sx6, tf7, ev3_hold, sxo, sxc, sxp, sxq, sxr, sxs, sxl, sxm, Int.reduceBEq, Int.reduceBNe, Int.reduceLT, Int.reduceLE, Int.reduceEq, Int.reduceGT, Int.reduceGE, Int.reduceToNat, ↓reduceIte, List.reduceReplicate, Nat.reduceAdd, Nat.reduceSub, Nat.reduceMul, Nat.reduceLT, Nat.reduceLeDiff, Nat.reduceBEq, Nat.reduceEqDiff, det0]
  refine ⟨_, eq_span (wa, wb) (wa, wb), ?_⟩
  have e9 : decide ((wa, wb) = (wa, wb)) = true := decide_eq_true rfl
  simp (config := { maxSteps := 4000000 }) only [↓sx0, ↓sx1, ↓sx2, ↓sx3, ↓sx4, ↓sx5, ↓sx6, sx0, sx1, sx2, sx3, sx4, sx5, sx6, tf7, ev3_hold, sxo, sxc, sxp, sxq, sxr, sxs, sxl, sxm, Int.reduceBEq, Int.reduceBNe, Int.reduceLT, Int.reduceLE, Int.reduceEq, Int.reduceGT, Int.reduceGE, Int.reduceToNat, ↓reduceIte, List.reduceReplicate, Nat.reduceAdd, Nat.reduceSub, Nat.reduceMul, Nat.reduceLT, Nat.reduceLeDiff, Nat.reduceBEq, Nat.reduceEqDiff, det0, e9]
  refine CallOb.pureH (fun w' hp => works_fn w' (hw.hp hp)) ?_
  rintro r8 N8 rfl
  refine ⟨?_⟩
  simp (config := { maxSteps := 4000000 }) only [↓sx0, ↓sx1, ↓sx2, ↓sx3, ↓sx4, ↓sx5, ↓sx6, sx0, sx1, sx2, sx3, sx4, sx5, sx6, tf7, ev3_hold, sxo, sxc, sxp, sxq, sxr, sxs, sxl, sxm, Int.reduceBEq, Int.reduceBNe, Int.reduceLT, Int.reduceLE, Int.reduceEq, Int.reduceGT, Int.reduceGE, Int.reduceToNat, ↓reduceIte, List.reduceReplicate, Nat.reduceAdd, Nat.reduceSub, Nat.reduceMul, Nat.reduceLT, Nat.reduceLeDiff, Nat.reduceBEq, Nat.reduceEqDiff]

end Go.Proofs.YtcnjhgnlcnmagaaDoor

namespace Go.Proofs.YtcnjhgnlcnmagaaDoor
open Go.RowKit Go.SX
set_option maxRecDepth 20000
set_option maxHeartbeats 8000000
set_option linter.unusedSimpArgs false
set_option linter.unusedVariables false

/-! ### How far it is: plain -/

open Classical in
noncomputable def dst (W H a x : Nat) : Nat := if h : ∃ n, isD W H a x n then h.choose else 0

theorem dst_is {W H a x : Nat} (ha : a < W * H) (hx : x < W * H) : isD W H a x (dst W H a x) := by
  obtain ⟨k, _, hk⟩ := isD_ex ha hx
  unfold dst
  rw [dif_pos ⟨k, hk⟩]
  exact Exists.choose_spec _

theorem dst_lt {W H a x : Nat} (ha : a < W * H) (hx : x < W * H) : dst W H a x < W * H := by
  obtain ⟨k, h1, hk⟩ := isD_ex ha hx
  rw [isD_uniq (dst_is ha hx) hk]
  exact h1

theorem dst_le_symm {W H a x : Nat} (ha : a < W * H) (hx : x < W * H) : dst W H a x ≤ dst W H x a :=
  (dst_is ha hx).2 _ (Rc.symm hx (dst_is hx ha).1)

theorem dst_symm {W H a x : Nat} (ha : a < W * H) (hx : x < W * H) : dst W H a x = dst W H x a := Nat.le_antisymm (dst_le_symm ha hx) (dst_le_symm hx ha)

theorem dst_over {W H a x o : Nat} (ha : a < W * H) (hx : x < W * H) (ho : o < W * H) : dst W H a x ≤ dst W H a o + dst W H o x :=
  (dst_is ha hx).2 _ ((dst_is ha ho).1.trans (dst_is ho hx).1)

theorem rc_zero {W H a x : Nat} (h : Rc W H a 0 x) : x = a := by
  cases h
  rfl

theorem dst_zero {W H a x : Nat} (ha : a < W * H) (hx : x < W * H) : dst W H a x = 0 ↔ a = x := by
  constructor
  · intro h
    have := (dst_is ha hx).1
    rw [h] at this
    exact (rc_zero this).symm
  · rintro rfl
    have := (dst_is ha ha).2 0 .zero
    omega

/-- A neighbour is another cell. -/
theorem bes_ne {W H k d n : Nat} (hk : k < W * H) (hd : d < 6) (h : bes W H k d = some n) : n ≠ k := by
  rintro rfl
  have h2 := bes_back hk hd h
  have hW : 0 < W := by
    cases W with
    | zero => simp at hk
    | succ w => omega
  have hr : n % W < W := Nat.mod_lt _ hW
  have hkk : n / W * W + n % W = n := by rw [Nat.mul_comm]; exact Nat.div_add_mod n W
  unfold bes at h
  simp only [] at h
  generalize hxe : ((n % W : Nat) : Int) + (if n / W % 2 = 1 then (wayAt d).2.1 else (wayAt d).1) = x at h
  generalize hye : ((n / W : Nat) : Int) + (wayAt d).2.2 = y at h
  split at h
  case isFalse => cases h
  rename_i hc
  simp only [Option.some.injEq] at h
  have hn1 : n / W = y.toNat := by
    conv => lhs; rw [← h, Nat.mul_comm, Nat.mul_add_div hW, Nat.div_eq_of_lt (by omega)]
    omega
  have hn2 : n % W = x.toNat := by
    conv => lhs; rw [← h, Nat.mul_comm, Nat.mul_add_mod, Nat.mod_eq_of_lt (by omega)]
  have hd' : d = 0 ∨ d = 1 ∨ d = 2 ∨ d = 3 ∨ d = 4 ∨ d = 5 := by omega
  rcases hd' with rfl | rfl | rfl | rfl | rfl | rfl <;> simp [wayAt, ways6] at hxe hye <;> omega

theorem dst_one {W H a x : Nat} (ha : a < W * H) (hx : x < W * H) : dst W H a x = 1 ↔ x ∈ besL W H a 6 := by
  constructor
  · intro h
    have h1 := (dst_is ha hx).1
    have h0 : ¬ a = x := fun e => by have := (dst_zero ha hx).2 e; omega
    rw [h] at h1
    cases h1 with
    | step hz hy =>
      rw [rc_zero hz] at hy
      rcases List.mem_cons.1 hy with e | e
      · exact absurd e.symm h0
      · exact e
  · intro h
    have h1 := (dst_is ha hx).2 1 (.step .zero (List.mem_cons_of_mem _ h))
    obtain ⟨d, hd, hb⟩ := List.mem_filterMap.1 h
    have := bes_ne ha (by simpa using hd) hb
    have h0 : dst W H a x ≠ 0 := fun e => this ((dst_zero ha hx).1 e).symm
    omega

theorem openE_cells {c : Cht} {a b : Int} (hok : c.ok) (ha : notCell c a = false) (hb : notCell c b = false) : openE c [a, b] [] [] = 0 := by
  unfold openE
  rw [(okB_iff c).2 hok]
  simp [ha, hb]

theorem cell_of {c : Cht} {a : Int} (ha : notCell c a = false) : ∃ A : Nat, a = A ∧ A < c.depth.length := by
  unfold notCell at ha
  rw [Bool.not_eq_false', inB_iff] at ha
  exact ⟨a.toNat, by omega, by omega⟩

/-- Apart of two cells. -/
theorem apart_at (w : World) (hw : Ways w) (v : Value) (c : Cht) (hc : ChOk w v c) (hsm : c.small) (hok : c.ok) (A B : Nat) (hA : A < c.depth.length) (hB : B < c.depth.length) : SX.Fn Tryd.prog 28 [v, I A, I B] w (fun _ => False) fun r N => r = .tuple #[I (dst c.W c.H A B : Nat), I 0] := by
  obtain ⟨eW, eH, hW, hH, hlen⟩ := hok.dims
  refine (apart_fn w hw v c hc hsm A B).mono fun r N h => ?_
  have nc : ∀ X : Nat, X < c.depth.length → notCell c X = false := fun X hX => by
    unfold notCell
    rw [Bool.not_eq_false', inB_iff]
    omega
  rcases h with ⟨h1, _⟩ | ⟨_, d, rfl, hd⟩
  · exact absurd (openE_cells hok (nc A hA) (nc B hB)) h1
  · simp only [Int.toNat_natCast] at hd
    rw [isD_uniq hd (dst_is (by omega) (by omega))]

end Go.Proofs.YtcnjhgnlcnmagaaDoor

