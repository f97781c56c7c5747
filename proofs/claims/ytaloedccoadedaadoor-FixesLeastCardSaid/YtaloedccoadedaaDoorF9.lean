/- Parts of a proof: the symbolic walk and what it shows of single functions. -/
import Derived.Test.YtaloedccoadedaaDoorF8
import Derived.Test.YtaloedccoadedaaDoorC5
import Derived.Test.YtaloedccoadedaaDoorF7
set_option linter.all false
namespace Go.Proofs.YtaloedccoadedaaDoor
open Go.RowKit Go.SX
set_option maxRecDepth 20000
set_option maxHeartbeats 0
set_option linter.unusedSimpArgs false
set_option linter.unusedVariables false
theorem may_fn (w : World) (v : Value) (d : Dis) (hd : DsOk w v d) (hok : d.c.ok) (k t : Nat) (hk : k < d.c.depth.length) (ht : t < d.c.tide.length) : SX.Fn Tryd.prog 71 [v, I k, I t] w (fun _ => False) fun q N => q = .bool (d.may t k) := by
  obtain ⟨sD, sT, sS, sR, rfl, hc, hsR⟩ := hd
  have hov := fun (h : Int) (hh : -10000 ≤ h ∧ h ≤ 10000) (H : List HO) w' (hp : Hp ⟨w, fun _ => False⟩ H w') => over_fn w' _ d.c (hc.hp hp) hok k t h hk ht hh
  obtain ⟨_, _, _, hh, hsD, hsT, hsS⟩ := hc
  cases hh
  obtain ⟨aT, nT, cT, rfl⟩ := hsT.shape
  have hnT := hsT.le spc_len (by omega)
  subst hnT
  have hrT := hsT.rd0
  have hbd := Cht.ok.bds hok hk ht
  have hgt := getD_at ht (0, 0)
  have hthi : d.c.thi t = (d.c.tide.getD t (0, 0)).2 := rfl
  unfold Dis.may
  rw [hthi]
  rw [hthi] at hbd
  obtain ⟨⟨lo, hi⟩, hpq⟩ : ∃ pq, d.c.tide.getD t (0, 0) = pq := ⟨_, rfl⟩
  rw [hpq] at hgt hbd ⊢
  simp only [] at hbd ⊢
  have dn : ∀ (g : Nat) (xs : List Value), det0 g xs = none := fun _ _ => rfl
  refine walk [] [(1, (ones [0, 2, 3, 4, 5, 7, 12] (.ld 1 (.ld 6 (ones [8, 9] (.ld 10 (.ld 13 (ones [11, 14, 15] .fin))))))))] (det0_ok _ _) Tryd.func71 rfl Tryd.ntmps71 res71 (by kernel_rfl) no_facts ?_
  simp (config := { maxSteps := 4000000 }) only [↓sx0, ↓sx1, ↓sx2, ↓sx3, ↓sx4, ↓sx5, ↓sx6, sx0, sx1, sx2, sx3, sx4, sx5, sx6, tf71, ev3_hold, sxo, sxc, sxp, sxq, sxr, sxs, sxl, sxm, Int.reduceBEq, Int.reduceBNe, Int.reduceLT, Int.reduceLE, Int.reduceEq, Int.reduceGT, Int.reduceGE, Int.reduceToNat, ↓reduceIte, List.reduceReplicate, Nat.reduceAdd, Nat.reduceSub, Nat.reduceMul, Nat.reduceLT, Nat.reduceLeDiff, Nat.reduceBEq, Nat.reduceEqDiff, dn]
  refine at_f (hrT _) spc_len hgt (o := 1) (x := I hi) rfl fun ad => ?_
  simp (config := { maxSteps := 4000000 }) only [↓sx0, ↓sx1, ↓sx2, ↓sx3, ↓sx4, ↓sx5, ↓sx6, sx0, sx1, sx2, sx3, sx4, sx5, sx6, tf71, ev3_hold, sxo, sxc, sxp, sxq, sxr, sxs, sxl, sxm, Int.reduceBEq, Int.reduceBNe, Int.reduceLT, Int.reduceLE, Int.reduceEq, Int.reduceGT, Int.reduceGE, Int.reduceToNat, ↓reduceIte, List.reduceReplicate, Nat.reduceAdd, Nat.reduceSub, Nat.reduceMul, Nat.reduceLT, Nat.reduceLeDiff, Nat.reduceBEq, Nat.reduceEqDiff, dn]
  refine CallOb.pureH (fun w' hp => hov hi (by omega) _ w' hp) ?_
  rintro q N rfl
  refine ⟨?_⟩
  simp (config := { maxSteps := 4000000 }) only [↓sx0, ↓sx1, ↓sx2, ↓sx3, ↓sx4, ↓sx5, ↓sx6, sx0, sx1, sx2, sx3, sx4, sx5, sx6, tf71, ev3_hold, sxo, sxc, sxp, sxq, sxr, sxs, sxl, sxm, Int.reduceBEq, Int.reduceBNe, Int.reduceLT, Int.reduceLE, Int.reduceEq, Int.reduceGT, Int.reduceGE, Int.reduceToNat, ↓reduceIte, List.reduceReplicate, Nat.reduceAdd, Nat.reduceSub, Nat.reduceMul, Nat.reduceLT, Nat.reduceLeDiff, Nat.reduceBEq, Nat.reduceEqDiff]
theorem rcentre_fn (w : World) (W k : Nat) (b x y z : Value) (hW : 1 ≤ W ∧ W ≤ 12) (hk : k < 200) : SX.Fn Tryd.prog 124 [.agg #[I W, b, x, y, z], I k] w (fun _ => False) fun q N => q = .tuple #[I (cenX W k), I (cenY W k)] := by
  have hdm := tdivmod (k := k) hW.1
  have hdm2 := tdivmod (k := k / W) (W := 2) (by omega)
  have hq : k / W ≤ k := Nat.div_le_self _ _
  have hr : k % W < W := Nat.mod_lt _ (by omega)
  unfold cenX cenY
  generalize k / W = q at *
  generalize k % W = r at *
  have e0 : ((W : Int) = 0) = False := eq_false (by omega)
  have e1 : wr (q : Int) = q := wrap_id (by omega)
  have e2 : wr (2 * (r : Int)) = 2 * (r : Int) := wrap_id (by omega)
  have e3 : wr (2 * (q : Int)) = 2 * (q : Int) := wrap_id (by omega)
  have e4 : (q : Int).tmod 2 = ((q % 2 : Nat) : Int) := hdm2.2
  have e5 : wr (2 * (r : Int) + ((q % 2 : Nat) : Int)) = 2 * (r : Int) + ((q % 2 : Nat) : Int) := wrap_id (by omega)
  refine walk [] [] (det0_ok _ _) Tryd.func124 rfl Tryd.ntmps124 res124 (by kernel_rfl) no_facts ?_
  simp (config := { maxSteps := 4000000 }) only [↓sx0, ↓sx1, ↓sx2, ↓sx3, ↓sx4, ↓sx5, ↓sx6, sx0, sx1, sx2, sx3, sx4, sx5, sx6, tf124, ev3_hold, sxo, sxc, sxp, sxq, sxr, sxs, sxl, sxm, Int.reduceBEq, Int.reduceBNe, Int.reduceLT, Int.reduceLE, Int.reduceEq, Int.reduceGT, Int.reduceGE, Int.reduceToNat, ↓reduceIte, List.reduceReplicate, Nat.reduceAdd, Nat.reduceSub, Nat.reduceMul, Nat.reduceLT, Nat.reduceLeDiff, Nat.reduceBEq, Nat.reduceEqDiff, e0, hdm.1, hdm.2, e1, e2, e3, e4, e5]
def seenB (W : Nat) (r : Rep) (K k : Nat) : Bool :=
  if (k : Int) = (K : Int) then false
  else if trn r.a r.b r.c r.d > 0 then decide (trn r.a r.b (cenX W k - cenX W K) (cenY W k - cenY W K) ≥ 0) && decide (trn (cenX W k - cenX W K) (cenY W k - cenY W K) r.c r.d ≥ 0)
  else decide (trn r.a r.b (cenX W k - cenX W K) (cenY W k - cenY W K) = 0) && decide (alg r.a r.b (cenX W k - cenX W K) (cenY W k - cenY W K) > 0)
theorem seen_fn (w : World) (W K k : Nat) (b' x' y' z' : Value) (r : Rep) (hc : r.cell = K) (hW : 1 ≤ W ∧ W ≤ 12) (hK : K < 200) (hk : k < 200) (hB : beamB r = true) : SX.Fn Tryd.prog 106 [.agg #[I W, b', x', y', z'], rpv r, I k] w (fun _ => False) fun q N => q = .bool (seenB W r K k) := by
  obtain ⟨ba, bb, bc, bd⟩ := beam_bd hB
  have hck := cen_bd W k hW hk
  have hcK := cen_bd W K hW hK
  have hcenk := fun (H : List HO) w' (hp : Hp ⟨w, fun _ => False⟩ H w') => rcentre_fn w' W k b' x' y' z' hW hk
  have hcenK := fun (H : List HO) w' (hp : Hp ⟨w, fun _ => False⟩ H w') => rcentre_fn w' W K b' x' y' z' hW hK
  obtain ⟨x1, kd, cl, a, b, c4, d4, s, x9⟩ := r
  simp only [] at hc ba bb bc bd
  subst hc
  have f0 := (wtrn_eq ba bb bc bd).1
  obtain ⟨X, hX⟩ : ∃ X, cenX W k - cenX W K = X := ⟨_, rfl⟩
  obtain ⟨Y, hY⟩ : ∃ Y, cenY W k - cenY W K = Y := ⟨_, rfl⟩
  have hXb : -1000 ≤ X ∧ X ≤ 1000 := by omega
  have hYb : -1000 ≤ Y ∧ Y ≤ 1000 := by omega
  have cx' : wr (cenX W k - cenX W K) = X := by rw [hX]; exact wrap_id (by omega)
  have cy' : wr (cenY W k - cenY W K) = Y := by rw [hY]; exact wrap_id (by omega)
  have f1 := wtrn_eq2 (a := a) (b := b) (c := X) (d := Y) (A := 1000) (B := 1000) (by omega) (by omega) (by omega) (by omega) hXb hYb
  have f2 := (wtrn_eq2 (a := X) (b := Y) (c := c4) (d := d4) (A := 1000) (B := 1000) (by omega) (by omega) hXb hYb (by omega) (by omega)).1
  have f3 : IntKind.i64.wrap (IntKind.i64.wrap (a * X) + IntKind.i64.wrap (b * Y)) = alg a b X Y := f1.2
  have f1 := f1.1
  unfold seenB rpv
  simp only [hX, hY]
  have dn : ∀ xs, detT 124 xs = none := fun _ => rfl
  refine walk [] [] (detT_ok _ _) Tryd.func106 rfl Tryd.ntmps106 res106 (by kernel_rfl) no_facts ?_
  simp (config := { maxSteps := 4000000 }) only [↓sx0, ↓sx1, ↓sx2, ↓sx3, ↓sx4, ↓sx5, ↓sx6, sx0, sx1, sx2, sx3, sx4, sx5, sx6, tf106, ev3_hold, sxo, sxc, sxp, sxq, sxr, sxs, sxl, sxm, Int.reduceBEq, Int.reduceBNe, Int.reduceLT, Int.reduceLE, Int.reduceEq, Int.reduceGT, Int.reduceGE, Int.reduceToNat, ↓reduceIte, List.reduceReplicate, Nat.reduceAdd, Nat.reduceSub, Nat.reduceMul, Nat.reduceLT, Nat.reduceLeDiff, Nat.reduceBEq, Nat.reduceEqDiff, dn]
  refine CallOb.pureH (fun w' hp => hcenK _ w' hp) ?_
  rintro q N rfl
  refine ⟨?_⟩
  simp (config := { maxSteps := 4000000 }) only [↓sx0, ↓sx1, ↓sx2, ↓sx3, ↓sx4, ↓sx5, ↓sx6, sx0, sx1, sx2, sx3, sx4, sx5, sx6, tf106, ev3_hold, sxo, sxc, sxp, sxq, sxr, sxs, sxl, sxm, Int.reduceBEq, Int.reduceBNe, Int.reduceLT, Int.reduceLE, Int.reduceEq, Int.reduceGT, Int.reduceGE, Int.reduceToNat, ↓reduceIte, List.reduceReplicate, Nat.reduceAdd, Nat.reduceSub, Nat.reduceMul, Nat.reduceLT, Nat.reduceLeDiff, Nat.reduceBEq, Nat.reduceEqDiff, dn]
  refine CallOb.pureH (fun w' hp => hcenk _ w' hp) ?_
  rintro q N2 rfl
  by_cases hkK : (k : Int) = (K : Int)
  · have p1 : ((k : Int) = (K : Int)) = True := eq_true hkK
    rw [if_pos hkK]
    refine ⟨?_⟩
    simp (config := { maxSteps := 4000000 }) only [↓sx0, ↓sx1, ↓sx2, ↓sx3, ↓sx4, ↓sx5, ↓sx6, sx0, sx1, sx2, sx3, sx4, sx5, sx6, tf106, ev3_hold, sxo, sxc, sxp, sxq, sxr, sxs, sxl, sxm, Int.reduceBEq, Int.reduceBNe, Int.reduceLT, Int.reduceLE, Int.reduceEq, Int.reduceGT, Int.reduceGE, Int.reduceToNat, ↓reduceIte, List.reduceReplicate, Nat.reduceAdd, Nat.reduceSub, Nat.reduceMul, Nat.reduceLT, Nat.reduceLeDiff, Nat.reduceBEq, Nat.reduceEqDiff, p1]
  have p1 : ((k : Int) = (K : Int)) = False := eq_false hkK
  rw [if_neg hkK]
  by_cases ht : trn a b c4 d4 > 0
  · have p2 : (trn a b c4 d4 > 0) = True := eq_true ht
    rw [if_pos ht]
    by_cases h1 : trn a b X Y ≥ 0
    · have p3 : (trn a b X Y ≥ 0) = True := eq_true h1
      refine ⟨?_⟩
      simp (config := { maxSteps := 4000000 }) only [↓sx0, ↓sx1, ↓sx2, ↓sx3, ↓sx4, ↓sx5, ↓sx6, sx0, sx1, sx2, sx3, sx4, sx5, sx6, tf106, ev3_hold, sxo, sxc, sxp, sxq, sxr, sxs, sxl, sxm, Int.reduceBEq, Int.reduceBNe, Int.reduceLT, Int.reduceLE, Int.reduceEq, Int.reduceGT, Int.reduceGE, Int.reduceToNat, ↓reduceIte, List.reduceReplicate, Nat.reduceAdd, Nat.reduceSub, Nat.reduceMul, Nat.reduceLT, Nat.reduceLeDiff, Nat.reduceBEq, Nat.reduceEqDiff, p1, cx', cy', detT_eq, f0, f1, f2, p2, p3]
      all_goals first | rfl | simp [h1]
    · have p3 : (trn a b X Y ≥ 0) = False := eq_false h1
      refine ⟨?_⟩
      simp (config := { maxSteps := 4000000 }) only [↓sx0, ↓sx1, ↓sx2, ↓sx3, ↓sx4, ↓sx5, ↓sx6, sx0, sx1, sx2, sx3, sx4, sx5, sx6, tf106, ev3_hold, sxo, sxc, sxp, sxq, sxr, sxs, sxl, sxm, Int.reduceBEq, Int.reduceBNe, Int.reduceLT, Int.reduceLE, Int.reduceEq, Int.reduceGT, Int.reduceGE, Int.reduceToNat, ↓reduceIte, List.reduceReplicate, Nat.reduceAdd, Nat.reduceSub, Nat.reduceMul, Nat.reduceLT, Nat.reduceLeDiff, Nat.reduceBEq, Nat.reduceEqDiff, p1, cx', cy', detT_eq, f0, f1, f2, p2, p3]
      all_goals first | rfl | simp [h1]
  · have p2 : (trn a b c4 d4 > 0) = False := eq_false ht
    rw [if_neg ht]
    by_cases h1 : trn a b X Y = 0
    · have p3 : (trn a b X Y = 0) = True := eq_true h1
      refine ⟨?_⟩
      simp (config := { maxSteps := 4000000 }) only [↓sx0, ↓sx1, ↓sx2, ↓sx3, ↓sx4, ↓sx5, ↓sx6, sx0, sx1, sx2, sx3, sx4, sx5, sx6, tf106, ev3_hold, sxo, sxc, sxp, sxq, sxr, sxs, sxl, sxm, Int.reduceBEq, Int.reduceBNe, Int.reduceLT, Int.reduceLE, Int.reduceEq, Int.reduceGT, Int.reduceGE, Int.reduceToNat, ↓reduceIte, List.reduceReplicate, Nat.reduceAdd, Nat.reduceSub, Nat.reduceMul, Nat.reduceLT, Nat.reduceLeDiff, Nat.reduceBEq, Nat.reduceEqDiff, p1, cx', cy', detT_eq, f0, f1, f3, p2, p3]
      all_goals first | rfl | simp [h1]
    · have p3 : (trn a b X Y = 0) = False := eq_false h1
      refine ⟨?_⟩
      simp (config := { maxSteps := 4000000 }) only [↓sx0, ↓sx1, ↓sx2, ↓sx3, ↓sx4, ↓sx5, ↓sx6, sx0, sx1, sx2, sx3, sx4, sx5, sx6, tf106, ev3_hold, sxo, sxc, sxp, sxq, sxr, sxs, sxl, sxm, Int.reduceBEq, Int.reduceBNe, Int.reduceLT, Int.reduceLE, Int.reduceEq, Int.reduceGT, Int.reduceGE, Int.reduceToNat, ↓reduceIte, List.reduceReplicate, Nat.reduceAdd, Nat.reduceSub, Nat.reduceMul, Nat.reduceLT, Nat.reduceLeDiff, Nat.reduceBEq, Nat.reduceEqDiff, p1, cx', cy', detT_eq, f0, f1, f3, p2, p3]
      all_goals first | rfl | simp [h1]
theorem holds_fn (w : World) (sD sT sS vm : Value) (c : Cht) (hok : c.ok) (hm : LLOk i1 1 w vm (apL c)) (r : Rep) (hr : repB c r = true) (k : Nat) (hk : k < c.depth.length) :
    SX.Fn Tryd.prog 72 [.agg #[I c.wide, I c.high, sD, sT, sS], vm, rpv r, I k] w (fun _ => False) fun q N => q = .bool (saysB c r k) := by
  obtain ⟨hrt, hrs, hrw⟩ := (repB_iff _ _).1 hr
  obtain ⟨pa, aA, cA, rfl, hal, hsA, hAt⟩ := hm.at i1_len (by decide)
  have hAl : (apL c).length = c.depth.length := rowF_len _ _
  rw [hAl] at hsA hal ⊢
  have hrA := fun H => hsA.rd0 H
  obtain ⟨eW, _, hW, hH, hlen⟩ := hok.dims
  have h144 : c.depth.length ≤ 144 := by rw [hlen]; exact Nat.le_trans (Nat.mul_le_mul hW.2 hH.2) (by decide)
  obtain ⟨K, hK⟩ : ∃ K : Nat, r.cell = K := ⟨r.cell.toNat, by omega⟩
  have hKn : K < c.depth.length := by omega
  obtain ⟨a3, c3, hpa, hs3⟩ := hAt K _ (ap_get c hKn)
  have hapl : (apRow c K).length = c.depth.length := rowF_len _ _
  have hr3 := hs3.rd0
  rw [hapl] at hpa hr3
  have hdk := ap_get2 c K hk
  have hdm := tdivmod (k := k) hW.1
  have hkd := shp_kind hrs
  have hse := fun (hB : beamB r = true) (H : List HO) w' (hp : Hp ⟨w, fun _ => False⟩ H w') => seen_fn w' c.W K k (I c.high) sD sT sS r hK hW (by omega) (by omega) hB
  have e0 : ((c.W : Int) = 0) = False := eq_false (by omega)
  have hq : k / c.W ≤ k := Nat.div_le_self _ _
  have e1 : wr ((k / c.W : Nat) : Int) = ((k / c.W : Nat) : Int) := by
    generalize k / c.W = q at hq ⊢
    exact wrap_id (by omega)
  rw [eW]
  have hseen : ∀ a, a = seenB c.W r K k → r.kind = 2 → saysB c r k = a := fun a h h2 => by
    rw [h]
    unfold saysB seenB
    rw [if_neg (by omega), if_neg (by omega), if_neg (by omega), hK, Int.toNat_natCast]
  have hs := hseen _ rfl
  obtain ⟨x1, kd, cl, a, b, c4, d4, s, x9⟩ := r
  simp only [] at hK hkd hs
  subst hK
  unfold rpv at hse ⊢
  rcases hkd with h | h | h | ⟨h, hB⟩
  · have q1 : (kd = 1) = True := eq_true h
    unfold saysB
    simp only [Int.toNat_natCast]
    rw [if_pos h]
    refine walk [] [] (detT_ok _ _) Tryd.func72 rfl Tryd.ntmps72 res72 (by kernel_rfl) no_facts ?_
    simp (config := { maxSteps := 4000000 }) only [↓sx0, ↓sx1, ↓sx2, ↓sx3, ↓sx4, ↓sx5, ↓sx6, sx0, sx1, sx2, sx3, sx4, sx5, sx6, tf72, ev3_hold, sxo, sxc, sxp, sxq, sxr, sxs, sxl, sxm, Int.reduceBEq, Int.reduceBNe, Int.reduceLT, Int.reduceLE, Int.reduceEq, Int.reduceGT, Int.reduceGE, Int.reduceToNat, ↓reduceIte, List.reduceReplicate, Nat.reduceAdd, Nat.reduceSub, Nat.reduceMul, Nat.reduceLT, Nat.reduceLeDiff, Nat.reduceBEq, Nat.reduceEqDiff, q1]
    refine at_1 (hrA _) lpc_len hpa (show lpc _ = [Value.slice a3 c.depth.length c3] from rfl) fun ad1 => ?_
    simp (config := { maxSteps := 4000000 }) only [↓sx0, ↓sx1, ↓sx2, ↓sx3, ↓sx4, ↓sx5, ↓sx6, sx0, sx1, sx2, sx3, sx4, sx5, sx6, tf72, ev3_hold, sxo, sxc, sxp, sxq, sxr, sxs, sxl, sxm, Int.reduceBEq, Int.reduceBNe, Int.reduceLT, Int.reduceLE, Int.reduceEq, Int.reduceGT, Int.reduceGE, Int.reduceToNat, ↓reduceIte, List.reduceReplicate, Nat.reduceAdd, Nat.reduceSub, Nat.reduceMul, Nat.reduceLT, Nat.reduceLeDiff, Nat.reduceBEq, Nat.reduceEqDiff]
    refine at_1 (hr3 _) i1_len hdk rfl fun ad2 => ?_
    simp (config := { maxSteps := 4000000 }) only [↓sx0, ↓sx1, ↓sx2, ↓sx3, ↓sx4, ↓sx5, ↓sx6, sx0, sx1, sx2, sx3, sx4, sx5, sx6, tf72, ev3_hold, sxo, sxc, sxp, sxq, sxr, sxs, sxl, sxm, Int.reduceBEq, Int.reduceBNe, Int.reduceLT, Int.reduceLE, Int.reduceEq, Int.reduceGT, Int.reduceGE, Int.reduceToNat, ↓reduceIte, List.reduceReplicate, Nat.reduceAdd, Nat.reduceSub, Nat.reduceMul, Nat.reduceLT, Nat.reduceLeDiff, Nat.reduceBEq, Nat.reduceEqDiff, detT_eq]
  · have q1 : (kd = 1) = False := eq_false (by omega)
    have q2 : (kd = 2) = False := eq_false (by omega)
    have q3 : (kd = 3) = True := eq_true h
    unfold saysB
    simp only [Int.toNat_natCast]
    rw [if_neg (by omega), if_pos h]
    refine walk [] [] (detT_ok _ _) Tryd.func72 rfl Tryd.ntmps72 res72 (by kernel_rfl) no_facts ?_
    cases h1 : inB ((k / c.W : Nat) : Int) a b with
    | false =>
      simp (config := { maxSteps := 4000000 }) only [↓sx0, ↓sx1, ↓sx2, ↓sx3, ↓sx4, ↓sx5, ↓sx6, sx0, sx1, sx2, sx3, sx4, sx5, sx6, tf72, ev3_hold, sxo, sxc, sxp, sxq, sxr, sxs, sxl, sxm, Int.reduceBEq, Int.reduceBNe, Int.reduceLT, Int.reduceLE, Int.reduceEq, Int.reduceGT, Int.reduceGE, Int.reduceToNat, ↓reduceIte, List.reduceReplicate, Nat.reduceAdd, Nat.reduceSub, Nat.reduceMul, Nat.reduceLT, Nat.reduceLeDiff, Nat.reduceBEq, Nat.reduceEqDiff, q1, q2, q3, detT_eq, e0, e1, hdm.1, h1]
      all_goals first | rfl | simp
    | true =>
      simp (config := { maxSteps := 4000000 }) only [↓sx0, ↓sx1, ↓sx2, ↓sx3, ↓sx4, ↓sx5, ↓sx6, sx0, sx1, sx2, sx3, sx4, sx5, sx6, tf72, ev3_hold, sxo, sxc, sxp, sxq, sxr, sxs, sxl, sxm, Int.reduceBEq, Int.reduceBNe, Int.reduceLT, Int.reduceLE, Int.reduceEq, Int.reduceGT, Int.reduceGE, Int.reduceToNat, ↓reduceIte, List.reduceReplicate, Nat.reduceAdd, Nat.reduceSub, Nat.reduceMul, Nat.reduceLT, Nat.reduceLeDiff, Nat.reduceBEq, Nat.reduceEqDiff, q1, q2, q3, detT_eq, e0, e1, hdm.1, hdm.2, h1]
      all_goals first | rfl | simp
  · have q1 : (kd = 1) = False := eq_false (by omega)
    have q2 : (kd = 2) = False := eq_false (by omega)
    have q3 : (kd = 3) = False := eq_false (by omega)
    unfold saysB
    simp only [Int.toNat_natCast]
    rw [if_neg (by omega), if_neg (by omega), if_pos h]
    refine walk [] [] (detT_ok _ _) Tryd.func72 rfl Tryd.ntmps72 res72 (by kernel_rfl) no_facts ?_
    simp (config := { maxSteps := 4000000 }) only [↓sx0, ↓sx1, ↓sx2, ↓sx3, ↓sx4, ↓sx5, ↓sx6, sx0, sx1, sx2, sx3, sx4, sx5, sx6, tf72, ev3_hold, sxo, sxc, sxp, sxq, sxr, sxs, sxl, sxm, Int.reduceBEq, Int.reduceBNe, Int.reduceLT, Int.reduceLE, Int.reduceEq, Int.reduceGT, Int.reduceGE, Int.reduceToNat, ↓reduceIte, List.reduceReplicate, Nat.reduceAdd, Nat.reduceSub, Nat.reduceMul, Nat.reduceLT, Nat.reduceLeDiff, Nat.reduceBEq, Nat.reduceEqDiff, q1, q2, q3]
    refine at_1 (hrA _) lpc_len hpa (show lpc _ = [Value.slice a3 c.depth.length c3] from rfl) fun ad1 => ?_
    simp (config := { maxSteps := 4000000 }) only [↓sx0, ↓sx1, ↓sx2, ↓sx3, ↓sx4, ↓sx5, ↓sx6, sx0, sx1, sx2, sx3, sx4, sx5, sx6, tf72, ev3_hold, sxo, sxc, sxp, sxq, sxr, sxs, sxl, sxm, Int.reduceBEq, Int.reduceBNe, Int.reduceLT, Int.reduceLE, Int.reduceEq, Int.reduceGT, Int.reduceGE, Int.reduceToNat, ↓reduceIte, List.reduceReplicate, Nat.reduceAdd, Nat.reduceSub, Nat.reduceMul, Nat.reduceLT, Nat.reduceLeDiff, Nat.reduceBEq, Nat.reduceEqDiff]
    refine at_1 (hr3 _) i1_len hdk rfl fun ad2 => ?_
    simp (config := { maxSteps := 4000000 }) only [↓sx0, ↓sx1, ↓sx2, ↓sx3, ↓sx4, ↓sx5, ↓sx6, sx0, sx1, sx2, sx3, sx4, sx5, sx6, tf72, ev3_hold, sxo, sxc, sxp, sxq, sxr, sxs, sxl, sxm, Int.reduceBEq, Int.reduceBNe, Int.reduceLT, Int.reduceLE, Int.reduceEq, Int.reduceGT, Int.reduceGE, Int.reduceToNat, ↓reduceIte, List.reduceReplicate, Nat.reduceAdd, Nat.reduceSub, Nat.reduceMul, Nat.reduceLT, Nat.reduceLeDiff, Nat.reduceBEq, Nat.reduceEqDiff]
  have q1 : (kd = 1) = False := eq_false (by omega)
  have q2 : (kd = 2) = True := eq_true h
  rw [hs h]
  have hse := hse hB
  obtain ⟨B, hBe⟩ : ∃ B, seenB c.W ⟨x1, kd, (K : Int), a, b, c4, d4, s, x9⟩ K k = B := ⟨_, rfl⟩
  rw [hBe]
  simp only [hBe] at hse
  have dn : ∀ xs, detT 106 xs = none := fun _ => rfl
  refine walk [] [] (detT_ok _ _) Tryd.func72 rfl Tryd.ntmps72 res72 (by kernel_rfl) no_facts ?_
  simp (config := { maxSteps := 4000000 }) only [↓sx0, ↓sx1, ↓sx2, ↓sx3, ↓sx4, ↓sx5, ↓sx6, sx0, sx1, sx2, sx3, sx4, sx5, sx6, tf72, ev3_hold, sxo, sxc, sxp, sxq, sxr, sxs, sxl, sxm, Int.reduceBEq, Int.reduceBNe, Int.reduceLT, Int.reduceLE, Int.reduceEq, Int.reduceGT, Int.reduceGE, Int.reduceToNat, ↓reduceIte, List.reduceReplicate, Nat.reduceAdd, Nat.reduceSub, Nat.reduceMul, Nat.reduceLT, Nat.reduceLeDiff, Nat.reduceBEq, Nat.reduceEqDiff, q1, q2, dn]
  refine CallOb.pureH (fun w' hp => hse _ w' hp) ?_
  rintro q N rfl
  refine ⟨?_⟩
  simp (config := { maxSteps := 4000000 }) only [↓sx0, ↓sx1, ↓sx2, ↓sx3, ↓sx4, ↓sx5, ↓sx6, sx0, sx1, sx2, sx3, sx4, sx5, sx6, tf72, ev3_hold, sxo, sxc, sxp, sxq, sxr, sxs, sxl, sxm, Int.reduceBEq, Int.reduceBNe, Int.reduceLT, Int.reduceLE, Int.reduceEq, Int.reduceGT, Int.reduceGE, Int.reduceToNat, ↓reduceIte, List.reduceReplicate, Nat.reduceAdd, Nat.reduceSub, Nat.reduceMul, Nat.reduceLT, Nat.reduceLeDiff, Nat.reduceBEq, Nat.reduceEqDiff]
end Go.Proofs.YtaloedccoadedaaDoor

namespace Go.Proofs.YtaloedccoadedaaDoor
open Go.RowKit Go.SX
set_option maxRecDepth 20000
set_option maxHeartbeats 0
set_option linter.unusedSimpArgs false
set_option linter.unusedVariables false
def MapP (c : Cht) (q : Value) (N : List HO) : Prop := ∃ ao co ps, q = .slice (some ao) c.depth.length co ∧ HO.row (.slice (some ao) c.depth.length co) 22 1 (cat lpc ps) ∈ N ∧ HasR c.depth.length c.depth.length ps (fun a b => (dst c.W c.H a b : Int)) N
theorem MapP.lln {c : Cht} {q : Value} {N : List HO} (h : MapP c q N) : LLN i1 1 22 3 N q (apL c) := by
  obtain ⟨ao, co, ps, rfl, h1, h2, h3⟩ := h
  refine ⟨ps, ?_, h1, fun p hp => ?_⟩
  · refine List.ext_getElem? fun i => ?_
    rw [List.getElem?_map]
    by_cases hi : i < c.depth.length
    · obtain ⟨a, c', k1, _⟩ := h3 i hi
      rw [k1, ap_get c hi]
      rfl
    · rw [List.getElem?_eq_none (by omega), List.getElem?_eq_none (by unfold apL; rw [List.length_map, List.length_range]; omega)]
      rfl
  · obtain ⟨i, hi⟩ := List.getElem?_of_mem hp
    have hlt := (List.getElem?_eq_some_iff.1 hi).1
    obtain ⟨a, c', k1, k2⟩ := h3 i (by omega)
    rw [hi] at k1
    cases k1
    exact k2
theorem MapP.mono {c : Cht} {q : Value} {N N' : List HO} (h : MapP c q N) (hm : ∀ h ∈ N, h ∈ N') : MapP c q N' := by
  obtain ⟨ao, co, ps, h0, h1, h2⟩ := h
  exact ⟨ao, co, ps, h0, hm _ h1, h2.mono hm⟩
theorem map_fn (w : World) (hw : Ways w) (sD sT sS : Value) (c : Cht) (hok : c.ok) : SX.Fn Tryd.prog 67 [.agg #[I c.wide, I c.high, sD, sT, sS]] w (fun _ => False) (MapP c) := by
  obtain ⟨eW, eH, hW, hH, hlen⟩ := hok.dims
  have h144 : c.depth.length ≤ 144 := by rw [hlen]; exact Nat.le_trans (Nat.mul_le_mul hW.2 hH.2) (by decide)
  have h1 : 1 ≤ c.depth.length := by rw [hlen]; exact Nat.mul_le_mul hW.1 hH.1
  have hst := fun (a : Nat) (ha : a < c.W * c.H) (H : List HO) w' (hp : Hp ⟨w, fun _ => False⟩ H w') => steps_fn w' (hw.hp hp) c.W c.H a sD sT sS hW hH ha
  have hce : detC 79 [.agg #[I c.W, I c.H, sD, sT, sS]] = some (I (wr ((c.W : Int) * c.H))) := rfl
  have ewh : IntKind.i64.wrap ((c.W : Int) * c.H) = (c.depth.length : Int) := by rw [hlen]; exact (wrap_id (by rw [← Int.natCast_mul, ← hlen]; omega)).trans (by simp)
  have dn : ∀ xs, detC 95 xs = none := fun _ => rfl
  unfold MapP
  have hrF : ∀ a, apRow c a = rowF c.depth.length fun b => (dst c.W c.H a b : Int) := fun _ => rfl
  obtain ⟨F, hF⟩ : ∃ F : Nat → Nat → Int, (fun a b => (dst c.W c.H a b : Int)) = F := ⟨_, rfl⟩
  have hrF : ∀ a, apRow c a = rowF c.depth.length (F a) := fun a => by rw [hrF, ← hF]
  rw [hF]
  have hrow : ∀ (a : Nat) (l : List Int), a < c.depth.length → l.length = c.W * c.H → (∀ t k, t < c.W * c.H → isD c.W c.H a t k → lv l t = k) → l = apRow c a := fun a l ha hl h => by
    refine List.ext_getElem? fun i => ?_
    by_cases hi : i < c.depth.length
    · rw [ap_get2 c a hi, List.getElem?_eq_getElem (by rw [hl, ← hlen]; exact hi)]
      have := h i _ (by rw [← hlen]; exact hi) (dst_is (by rw [← hlen]; exact ha) (by rw [← hlen]; exact hi))
      unfold lv at this
      rw [List.getD_eq_getElem?_getD, List.getElem?_eq_getElem (by rw [hl, ← hlen]; exact hi)] at this
      simpa using this
    · rw [List.getElem?_eq_none (by rw [hl, ← hlen]; omega), List.getElem?_eq_none (by unfold apRow; rw [List.length_map, List.length_range]; omega)]
  rw [eW, eH]
  simp only [← hlen] at hst hrow
  obtain ⟨n, hn⟩ : ∃ n, c.depth.length = n := ⟨_, rfl⟩
  simp only [hn] at *
  refine walk [] [] (detC_ok _ _) Tryd.func67 rfl Tryd.ntmps67 res67 (by kernel_rfl) no_facts ?_
  simp (config := { maxSteps := 4000000 }) only [↓sx0, ↓sx1, ↓sx2, ↓sx3, ↓sx4, ↓sx5, ↓sx6, sx0, sx1, sx2, sx3, sx4, sx5, sx6, tf67, ev3_hold, sxo, sxc, sxp, sxq, sxr, sxs, sxl, sxm, Int.reduceBEq, Int.reduceBNe, Int.reduceLT, Int.reduceLE, Int.reduceEq, Int.reduceGT, Int.reduceGE, Int.reduceToNat, ↓reduceIte, List.reduceReplicate, Nat.reduceAdd, Nat.reduceSub, Nat.reduceMul, Nat.reduceLT, Nat.reduceLeDiff, Nat.reduceBEq, Nat.reduceEqDiff]
  refine loop_constH [HO.row (.slice none 0 0) 22 1 (cat lpc ([] : List (Lp Int)))] ((HImp.nil _ _).trans (HImp.nilRow _ _ _ _)) [(3, 16)] (fun q : Nat × Option Addr × Nat => [(3, .slice q.2.1 q.1 q.2.2), (4, I q.1)])
    (fun q H1 => q.1 ≤ n ∧ ∃ ps DF, (q.2.1 = none → q.1 = 0) ∧ H1 = HO.row (.slice q.2.1 q.1 q.2.2) 22 1 (cat lpc (ps : List (Lp Int))) :: DF ∧ HasR n q.1 ps F DF) (fun q => n - q.1) (0, none, 0) ?_ ⟨Nat.zero_le _, [], [], fun _ => rfl, rfl, rfl, fun s hs => by simp only [] at hs; omega⟩ ?_
  · simp (config := { maxSteps := 4000000 }) only [↓sx0, ↓sx1, ↓sx2, ↓sx3, ↓sx4, ↓sx5, ↓sx6, sx0, sx1, sx2, sx3, sx4, sx5, sx6, tf67, ev3_hold, sxo, sxc, sxp, sxq, sxr, sxs, sxl, sxm, Int.reduceBEq, Int.reduceBNe, Int.reduceLT, Int.reduceLE, Int.reduceEq, Int.reduceGT, Int.reduceGE, Int.reduceToNat, ↓reduceIte, List.reduceReplicate, Nat.reduceAdd, Nat.reduceSub, Nat.reduceMul, Nat.reduceLT, Nat.reduceLeDiff, Nat.reduceBEq, Nat.reduceEqDiff]
    try simp
  rintro ⟨i, ao, co⟩ H1 g1 hinv
  simp only [] at hinv
  obtain ⟨hi, ps, DF, hnil, rfl, hDF⟩ := hinv
  by_cases hin : i = n
  · have e7 : ((i : Int) < (n : Int)) = False := eq_false (by omega)
    subst hin
    cases ao with
    | none => exact absurd (hnil rfl) (by omega)
    | some ao =>
    refine ⟨?_⟩
    simp (config := { maxSteps := 4000000 }) only [↓sx0, ↓sx1, ↓sx2, ↓sx3, ↓sx4, ↓sx5, ↓sx6, sx0, sx1, sx2, sx3, sx4, sx5, sx6, tf67, ev3_hold, sxo, sxc, sxp, sxq, sxr, sxs, sxl, sxm, Int.reduceBEq, Int.reduceBNe, Int.reduceLT, Int.reduceLE, Int.reduceEq, Int.reduceGT, Int.reduceGE, Int.reduceToNat, ↓reduceIte, List.reduceReplicate, Nat.reduceAdd, Nat.reduceSub, Nat.reduceMul, Nat.reduceLT, Nat.reduceLeDiff, Nat.reduceBEq, Nat.reduceEqDiff, hce, ewh, e7]
    exact ⟨ao, co, ps, rfl, List.mem_cons_self, hDF.mono fun h hh => List.mem_cons_of_mem _ hh⟩
  have e7 : ((i : Int) < (n : Int)) = True := eq_true (by omega)
  have e8 : wr (i + 1) = ((i + 1 : Nat) : Int) := (wrap_id (by omega)).trans (by omega)
  have hpl : ps.length = i := hDF.1
  refine ⟨?_⟩
  simp (config := { maxSteps := 4000000 }) only [↓sx0, ↓sx1, ↓sx2, ↓sx3, ↓sx4, ↓sx5, ↓sx6, sx0, sx1, sx2, sx3, sx4, sx5, sx6, tf67, ev3_hold, sxo, sxc, sxp, sxq, sxr, sxs, sxl, sxm, Int.reduceBEq, Int.reduceBNe, Int.reduceLT, Int.reduceLE, Int.reduceEq, Int.reduceGT, Int.reduceGE, Int.reduceToNat, ↓reduceIte, List.reduceReplicate, Nat.reduceAdd, Nat.reduceSub, Nat.reduceMul, Nat.reduceLT, Nat.reduceLeDiff, Nat.reduceBEq, Nat.reduceEqDiff, hce, ewh, e7, dn]
  refine CallOb.pureH (fun w' hp => hst i (by omega) _ w' hp) ?_
  rintro q N ⟨b, l, rfl, hN, hll, hlv⟩
  have hle := hrow i l (by omega) hll hlv
  subst hle
  refine ⟨?_⟩
  simp (config := { maxSteps := 4000000 }) only [↓sx0, ↓sx1, ↓sx2, ↓sx3, ↓sx4, ↓sx5, ↓sx6, sx0, sx1, sx2, sx3, sx4, sx5, sx6, tf67, ev3_hold, sxo, sxc, sxp, sxq, sxr, sxs, sxl, sxm, Int.reduceBEq, Int.reduceBNe, Int.reduceLT, Int.reduceLE, Int.reduceEq, Int.reduceGT, Int.reduceGE, Int.reduceToNat, ↓reduceIte, List.reduceReplicate, Nat.reduceAdd, Nat.reduceSub, Nat.reduceMul, Nat.reduceLT, Nat.reduceLeDiff, Nat.reduceBEq, Nat.reduceEqDiff]
  intro b3
  refine app_one (f := lpc) (l := ps) ((apRow c i, some ⟨b, 0, none⟩, n, n) : Lp Int) (A := N ++ DF) (HImp.perm List.perm_middle) lpc_len lpc_one (by omega) fun a3 c3 => ?_
  rw [hpl]
  simp (config := { maxSteps := 4000000 }) only [↓sx0, ↓sx1, ↓sx2, ↓sx3, ↓sx4, ↓sx5, ↓sx6, sx0, sx1, sx2, sx3, sx4, sx5, sx6, tf67, ev3_hold, sxo, sxc, sxp, sxq, sxr, sxs, sxl, sxm, Int.reduceBEq, Int.reduceBNe, Int.reduceLT, Int.reduceLE, Int.reduceEq, Int.reduceGT, Int.reduceGE, Int.reduceToNat, ↓reduceIte, List.reduceReplicate, Nat.reduceAdd, Nat.reduceSub, Nat.reduceMul, Nat.reduceLT, Nat.reduceLeDiff, Nat.reduceBEq, Nat.reduceEqDiff, e8]
  refine ⟨(i + 1, some a3, c3), _, ⟨rfl, rfl⟩, HImp.refl _ _, ⟨by simp only []; omega, _, N ++ DF, fun h => (by cases h), rfl, by simp only []; rw [List.length_append, hpl]; rfl, fun s hs => ?_⟩, by simp only []; omega⟩
  simp only [] at hs
  by_cases e : s < i
  · obtain ⟨a, c', k1, k2⟩ := hDF.2 s e
    exact ⟨a, c', by rw [List.getElem?_append_left (by omega)]; exact k1, List.mem_append_right _ k2⟩
  · have : s = i := by omega
    subst this
    rw [← hrF]
    exact ⟨⟨b, 0, none⟩, n, by rw [List.getElem?_append_right (by omega), hpl, Nat.sub_self]; rfl, List.mem_append_left _ hN⟩
theorem in3_fn (w : World) (v : Value) (l : List Int) (x : Int) (hs : Sl w v 1 (ints l)) (hb : l.length ≤ 1000000) : SX.Fn Tryd.prog 35 [v, I x] w (fun _ => False) fun q N => q = .bool (decide (x ∈ l)) := by
  obtain ⟨a, n, c, rfl⟩ := hs.shape
  have hn := hs.le i1_len (by omega)
  subst hn
  have hr := hs.rd0
  refine walk [] [] (det0_ok _ _) Tryd.func35 rfl Tryd.ntmps35 res35 (by kernel_rfl) no_facts ?_
  simp (config := { maxSteps := 4000000 }) only [↓sx0, ↓sx1, ↓sx2, ↓sx3, ↓sx4, ↓sx5, ↓sx6, sx0, sx1, sx2, sx3, sx4, sx5, sx6, tf35, ev3_hold, sxo, sxc, sxp, sxq, sxr, sxs, sxl, sxm, Int.reduceBEq, Int.reduceBNe, Int.reduceLT, Int.reduceLE, Int.reduceEq, Int.reduceGT, Int.reduceGE, Int.reduceToNat, ↓reduceIte, List.reduceReplicate, Nat.reduceAdd, Nat.reduceSub, Nat.reduceMul, Nat.reduceLT, Nat.reduceLeDiff, Nat.reduceBEq, Nat.reduceEqDiff]
  refine loop_constH [] (HImp.nil _ _) [(4, 17)] (fun k : Nat => [(5, I k)]) (fun k H1 => k ≤ l.length ∧ (x ∈ l ↔ x ∈ l.drop k)) (fun k => l.length - k) 0 ?_ ⟨Nat.zero_le _, Iff.rfl⟩ ?_
  · simp (config := { maxSteps := 4000000 }) only [↓sx0, ↓sx1, ↓sx2, ↓sx3, ↓sx4, ↓sx5, ↓sx6, sx0, sx1, sx2, sx3, sx4, sx5, sx6, tf35, ev3_hold, sxo, sxc, sxp, sxq, sxr, sxs, sxl, sxm, Int.reduceBEq, Int.reduceBNe, Int.reduceLT, Int.reduceLE, Int.reduceEq, Int.reduceGT, Int.reduceGE, Int.reduceToNat, ↓reduceIte, List.reduceReplicate, Nat.reduceAdd, Nat.reduceSub, Nat.reduceMul, Nat.reduceLT, Nat.reduceLeDiff, Nat.reduceBEq, Nat.reduceEqDiff]
    try simp
  rintro k H1 g1 ⟨hk, ht⟩
  by_cases hkn : k = l.length
  · have e7 : ((k : Int) < (l.length : Int)) = False := eq_false (by omega)
    refine ⟨?_⟩
    simp (config := { maxSteps := 4000000 }) only [↓sx0, ↓sx1, ↓sx2, ↓sx3, ↓sx4, ↓sx5, ↓sx6, sx0, sx1, sx2, sx3, sx4, sx5, sx6, tf35, ev3_hold, sxo, sxc, sxp, sxq, sxr, sxs, sxl, sxm, Int.reduceBEq, Int.reduceBNe, Int.reduceLT, Int.reduceLE, Int.reduceEq, Int.reduceGT, Int.reduceGE, Int.reduceToNat, ↓reduceIte, List.reduceReplicate, Nat.reduceAdd, Nat.reduceSub, Nat.reduceMul, Nat.reduceLT, Nat.reduceLeDiff, Nat.reduceBEq, Nat.reduceEqDiff, e7]
    rw [decide_eq_false]
    rw [ht, List.drop_of_length_le (by omega)]
    simp
  have e7 : ((k : Int) < (l.length : Int)) = True := eq_true (by omega)
  have e2 : wr (k + 1) = ((k + 1 : Nat) : Int) := (wrap_id (by omega)).trans (by omega)
  have hkl : k < l.length := by omega
  rw [List.drop_eq_getElem_cons hkl, List.mem_cons] at ht
  by_cases hx : l[k] = x
  · have e3 : (l[k] = x) = True := eq_true hx
    refine ⟨?_⟩
    simp (config := { maxSteps := 4000000 }) only [↓sx0, ↓sx1, ↓sx2, ↓sx3, ↓sx4, ↓sx5, ↓sx6, sx0, sx1, sx2, sx3, sx4, sx5, sx6, tf35, ev3_hold, sxo, sxc, sxp, sxq, sxr, sxs, sxl, sxm, Int.reduceBEq, Int.reduceBNe, Int.reduceLT, Int.reduceLE, Int.reduceEq, Int.reduceGT, Int.reduceGE, Int.reduceToNat, ↓reduceIte, List.reduceReplicate, Nat.reduceAdd, Nat.reduceSub, Nat.reduceMul, Nat.reduceLT, Nat.reduceLeDiff, Nat.reduceBEq, Nat.reduceEqDiff, e7]
    refine amid (at_1 (hr _) i1_len (List.getElem?_eq_getElem hkl) rfl fun ad => ?_)
    simp (config := { maxSteps := 4000000 }) only [↓sx0, ↓sx1, ↓sx2, ↓sx3, ↓sx4, ↓sx5, ↓sx6, sx0, sx1, sx2, sx3, sx4, sx5, sx6, tf35, ev3_hold, sxo, sxc, sxp, sxq, sxr, sxs, sxl, sxm, Int.reduceBEq, Int.reduceBNe, Int.reduceLT, Int.reduceLE, Int.reduceEq, Int.reduceGT, Int.reduceGE, Int.reduceToNat, ↓reduceIte, List.reduceReplicate, Nat.reduceAdd, Nat.reduceSub, Nat.reduceMul, Nat.reduceLT, Nat.reduceLeDiff, Nat.reduceBEq, Nat.reduceEqDiff, e3]
    rw [decide_eq_true (ht.2 (.inl hx.symm))]
  · have e3 : (l[k] = x) = False := eq_false hx
    refine ⟨?_⟩
    simp (config := { maxSteps := 4000000 }) only [↓sx0, ↓sx1, ↓sx2, ↓sx3, ↓sx4, ↓sx5, ↓sx6, sx0, sx1, sx2, sx3, sx4, sx5, sx6, tf35, ev3_hold, sxo, sxc, sxp, sxq, sxr, sxs, sxl, sxm, Int.reduceBEq, Int.reduceBNe, Int.reduceLT, Int.reduceLE, Int.reduceEq, Int.reduceGT, Int.reduceGE, Int.reduceToNat, ↓reduceIte, List.reduceReplicate, Nat.reduceAdd, Nat.reduceSub, Nat.reduceMul, Nat.reduceLT, Nat.reduceLeDiff, Nat.reduceBEq, Nat.reduceEqDiff, e7]
    refine amid (at_1 (hr _) i1_len (List.getElem?_eq_getElem hkl) rfl fun ad => ?_)
    simp (config := { maxSteps := 4000000 }) only [↓sx0, ↓sx1, ↓sx2, ↓sx3, ↓sx4, ↓sx5, ↓sx6, sx0, sx1, sx2, sx3, sx4, sx5, sx6, tf35, ev3_hold, sxo, sxc, sxp, sxq, sxr, sxs, sxl, sxm, Int.reduceBEq, Int.reduceBNe, Int.reduceLT, Int.reduceLE, Int.reduceEq, Int.reduceGT, Int.reduceGE, Int.reduceToNat, ↓reduceIte, List.reduceReplicate, Nat.reduceAdd, Nat.reduceSub, Nat.reduceMul, Nat.reduceLT, Nat.reduceLeDiff, Nat.reduceBEq, Nat.reduceEqDiff, e3, e2]
    exact ⟨k + 1, _, rfl, HImp.refl _ _, ⟨by omega, by rw [ht]; exact ⟨fun h => h.elim (fun h => absurd h.symm hx) id, .inr⟩⟩, by omega⟩
theorem isC_iff (g : Crs) : ∀ L : List Nat, g.isC L ↔ (∀ j, j < L.length → L.getD j 0 < g.n) ∧ ∀ j, j + 1 < L.length → g.nr (L.getD j 0) (L.getD (j + 1) 0) = true
  | [] => ⟨fun _ => ⟨fun j h => absurd h (Nat.not_lt_zero _), fun j h => absurd h (Nat.not_lt_zero _)⟩, fun _ => trivial⟩
  | [x] => ⟨fun h => ⟨fun j hj => by have : j = 0 := by simp at hj; exact hj
                                     subst this; exact h, fun j h => by simp at h⟩, fun h => h.1 0 (by simp)⟩
  | x :: y :: l => by
    have ih := isC_iff g (y :: l)
    constructor
    · rintro ⟨h1, h2, h3⟩
      obtain ⟨h4, h5⟩ := ih.1 h3
      refine ⟨fun j hj => ?_, fun j hj => ?_⟩
      · cases j with
        | zero => exact h1
        | succ j => exact h4 j (by simpa using hj)
      · cases j with
        | zero => exact h2
        | succ j => exact h5 j (by simpa using hj)
    · rintro ⟨h1, h2⟩
      exact ⟨h1 0 (by simp), h2 0 (by simp), ih.2 ⟨fun j hj => h1 (j + 1) (by simpa using hj), fun j hj => h2 (j + 1) (by simpa using hj)⟩⟩
noncomputable def Dis.tB (d : Dis) (M : List Nat) (i : Nat) : Bool := saysB d.c (d.rep i) (M.getD (d.rep i).tick.toNat 0)
noncomputable def Dis.dSum (d : Dis) (M : List Nat) (i : Nat) : Int := sumN (fun j => if d.tB M j then 0 else (d.rep j).weight) i
noncomputable def Dis.posB (d : Dis) (M : List Nat) : Nat → Bool
  | 0 => true
  | i + 1 => d.posB M i && (d.tB M i || !(d.rep i).sure)
def DbtP (d : Dis) (L : List Int) (q : Value) : Prop := (∃ M, L = zs M ∧ d.way M ∧ q = .tuple #[I (d.dSum M d.rs.length), .bool (d.posB M d.rs.length), .bool true]) ∨ ((¬ ∃ M, L = zs M ∧ d.way M) ∧ q = .tuple #[I 0, .bool false, .bool false])
def okAt (d : Dis) (L : List Int) (i : Nat) : Prop := ∃ X : Nat, L[i]? = some (X : Int) ∧ X < d.c.depth.length ∧ d.may i X = true ∧ (0 < i → ∃ Y : Nat, L[i - 1]? = some (Y : Int) ∧ (dst d.c.W d.c.H Y X : Int) ≤ d.pc)
theorem way_okAt {d : Dis} {M : List Nat} (h : d.way M) {i : Nat} (hi : i < d.c.tide.length) : okAt d (zs M) i := by
  obtain ⟨h1, h2, h3⟩ := h
  obtain ⟨h4, h5⟩ := (isC_iff _ M).1 h2
  refine ⟨M.getD i 0, zs_get (getD_at (by omega) 0), h4 i (by omega), h3 i hi, fun h0 => ⟨M.getD (i - 1) 0, zs_get (getD_at (by omega) 0), ?_⟩⟩
  have := h5 (i - 1) (by omega)
  rw [show i - 1 + 1 = i by omega] at this
  have h6 : (decide (M.getD (i - 1) 0 < d.c.depth.length ∧ M.getD i 0 < d.c.depth.length) && decide ((dst d.c.W d.c.H (M.getD (i - 1) 0) (M.getD i 0) : Int) ≤ d.pc)) = true := this
  rw [Bool.and_eq_true, decide_eq_true_eq, decide_eq_true_eq] at h6
  exact h6.2
theorem okAt_way {d : Dis} {L : List Int} (hl : L.length = d.c.tide.length) (h : ∀ i, i < d.c.tide.length → okAt d L i) : ∃ M, L = zs M ∧ d.way M := by
  have hg : ∀ i X, L[i]? = some ((X : Nat) : Int) → (L.map Int.toNat).getD i 0 = X := fun i X hx => by
    rw [List.getD_eq_getElem?_getD, List.getElem?_map, hx]
    simp
  refine ⟨L.map Int.toNat, ?_, by rw [List.length_map]; exact hl, (isC_iff _ _).2 ⟨fun j hj => ?_, fun j hj => ?_⟩, fun t ht => ?_⟩
  · refine List.ext_getElem? fun i => ?_
    unfold zs
    rw [List.map_map, List.getElem?_map]
    by_cases hi : i < L.length
    · obtain ⟨X, hX, _⟩ := h i (by omega)
      rw [hX]
      simp
    · rw [List.getElem?_eq_none (by omega)]
      rfl
  · rw [List.length_map] at hj
    obtain ⟨X, hX, hX2, _⟩ := h j (by omega)
    rw [hg j X hX]
    exact hX2
  · rw [List.length_map] at hj
    obtain ⟨X, hX, hX2, _, hX4⟩ := h (j + 1) (by omega)
    obtain ⟨Y, hY, hY2⟩ := hX4 (by omega)
    rw [Nat.add_sub_cancel] at hY
    obtain ⟨Y', hY', hY3, _⟩ := h j (by omega)
    rw [hY] at hY'
    have : Y' = Y := by have := Option.some.inj hY'; omega
    subst this
    rw [hg _ _ hX, hg _ _ hY]
    show (decide (Y' < d.c.depth.length ∧ X < d.c.depth.length) && decide ((dst d.c.W d.c.H Y' X : Int) ≤ d.pc)) = true
    rw [decide_eq_true ⟨hY3, hX2⟩, decide_eq_true hY2]
    rfl
  · obtain ⟨X, hX, _, hX3, _⟩ := h t ht
    rw [hg t X hX]
    exact hX3
end Go.Proofs.YtaloedccoadedaaDoor

namespace Go.Proofs.YtaloedccoadedaaDoor
open Go.RowKit Go.SX
set_option maxRecDepth 20000
set_option maxHeartbeats 0
set_option linter.unusedSimpArgs false
set_option linter.unusedVariables false
theorem dSum_bd {d : Dis} (hE : d.E = 0) (M : List Nat) : ∀ i, i ≤ d.rs.length → 0 ≤ d.dSum M i ∧ d.dSum M i ≤ 100 * i := fun i => by
  induction i with
  | zero => intro _; exact ⟨Int.le_refl _, Int.le_refl _⟩
  | succ i ih =>
    intro hi
    have h1 := ih (by omega)
    obtain ⟨_, _, _, _, hr⟩ := Dis.E_zero hE
    have h2 := wgt_bd ((repB_iff _ _).1 (hr _ (Dis.rep_mem (i := i) (by omega)).1)).2.2
    have e : d.dSum M (i + 1) = d.dSum M i + (if d.tB M i then 0 else (d.rep i).weight) := rfl
    rw [e]
    split <;> omega
theorem doubted_fn (w : World) (hw : Ways w) (v vc : Value) (d : Dis) (hd : DsOk w v d) (hE : d.E = 0) (L : List Int) (hL : Sl w vc 1 (ints L)) (hLb : L.length ≤ 1000000) : SX.Fn Tryd.prog 33 [v, vc] w (fun _ => False) fun q N => DbtP d L q := by
  have hd0 := hd
  obtain ⟨hok, hdr, hpc, hm12, hrep⟩ := Dis.E_zero hE
  have hmay := fun (k t : Nat) (hk : k < d.c.depth.length) (ht : t < d.c.tide.length) (H : List HO) w' (hp : Hp ⟨w, fun _ => False⟩ H w') => may_fn w' v d (hd0.hp hp) hok k t hk ht
  obtain ⟨sD, sT, sS, sR, rfl, hc, hsR⟩ := hd
  have hD := detR_ok (X := fun _ => False) hw hc (fun _ _ => id)
  have hmap := fun (H : List HO) w' (hp : Hp ⟨w, fun _ => False⟩ H w') => map_fn w' (hw.hp hp) sD sT sS d.c hok
  have hho := fun (w' : World) (vm : Value) (h : LLOk i1 1 w' vm (apL d.c)) (r : Rep) (hr : repB d.c r = true) (k : Nat) (hk : k < d.c.depth.length) => holds_fn w' sD sT sS vm d.c hok h r hr k hk
  have hcell : ∀ n, isCellB d.c.wide d.c.high n = inB n 0 ((d.c.depth.length : Int) - 1) := fun n => by rw [isCell_iff hok]; unfold notCell; rw [Bool.not_not]
  obtain ⟨_, _, _, hh, hsD, hsT, hsS⟩ := hc
  cases hh
  obtain ⟨aT, nT, cT, rfl⟩ := hsT.shape
  obtain ⟨aR, nR, cR, rfl⟩ := hsR.shape
  obtain ⟨aL, nL, cL, rfl⟩ := hL.shape
  have hnT := hsT.le spc_len (by omega)
  have hnR := hsR.le rpc_len (by omega)
  have hnL := hL.le i1_len (by omega)
  subst hnT hnR hnL
  have hrR := fun H => hsR.rd0 H
  have hrL := fun H => hL.rd0 H
  have hU : (∀ n, detR (.agg #[I d.c.wide, I d.c.high, sD, .slice aT d.c.tide.length cT, sS]) d.c 40 [.agg #[I d.c.wide, I d.c.high, sD, .slice aT d.c.tide.length cT, sS], I n] = some (.bool (isCellB d.c.wide d.c.high n))) := fun _ => rfl
  have dn : (∀ xs, detR (.agg #[I d.c.wide, I d.c.high, sD, .slice aT d.c.tide.length cT, sS]) d.c 67 xs = none) ∧ (∀ xs, detR (.agg #[I d.c.wide, I d.c.high, sD, .slice aT d.c.tide.length cT, sS]) d.c 71 xs = none) ∧ (∀ xs, detR (.agg #[I d.c.wide, I d.c.high, sD, .slice aT d.c.tide.length cT, sS]) d.c 72 xs = none) := ⟨fun _ => rfl, fun _ => rfl, fun _ => rfl⟩
  have hAl : (apL d.c).length = d.c.depth.length := rowF_len _ _
  have hagl : ∀ a, (apRow d.c a).length = d.c.depth.length := fun a => rowF_len _ _
  by_cases hlen : L.length = d.c.tide.length
  case neg =>
    have e1 : ((L.length : Int) = (d.c.tide.length : Int)) = False := eq_false (by omega)
    have hno : ¬ ∃ M, L = zs M ∧ d.way M := fun ⟨M, h1, h2⟩ => hlen (by rw [h1, zs_len, h2.1])
    unfold DbtP
    refine walk [] [] hD Tryd.func33 rfl Tryd.ntmps33 res33 (by kernel_rfl) no_facts ?_
    simp (config := { maxSteps := 4000000 }) only [↓sx0, ↓sx1, ↓sx2, ↓sx3, ↓sx4, ↓sx5, ↓sx6, sx0, sx1, sx2, sx3, sx4, sx5, sx6, tf33, ev3_hold, sxo, sxc, sxp, sxq, sxr, sxs, sxl, sxm, Int.reduceBEq, Int.reduceBNe, Int.reduceLT, Int.reduceLE, Int.reduceEq, Int.reduceGT, Int.reduceGE, Int.reduceToNat, ↓reduceIte, List.reduceReplicate, Nat.reduceAdd, Nat.reduceSub, Nat.reduceMul, Nat.reduceLT, Nat.reduceLeDiff, Nat.reduceBEq, Nat.reduceEqDiff, e1]
    exact .inr hno
  have e1 : ((L.length : Int) = (d.c.tide.length : Int)) = True := eq_true (by omega)
  unfold DbtP
  have hbad : ∀ i, i < d.c.tide.length → ¬ okAt d L i → ¬ ∃ M, L = zs M ∧ d.way M := fun i hi hn ⟨M, h1, h2⟩ => hn (by rw [h1]; exact way_okAt h2 hi)
  refine walkC [15] [] [] hD Tryd.func33 rfl Tryd.ntmps33 res33 (by kernel_rfl) no_facts ?_
  simp (config := { maxSteps := 4000000 }) only [↓sx0, ↓sx1, ↓sx2, ↓sx3, ↓sx4, ↓sx5, ↓sx6, sx0, sx1, sx2, sx3, sx4, sx5, sx6, tf33, ev3_hold, sxo, sxc, sxp, sxq, sxr, sxs, sxl, sxm, Int.reduceBEq, Int.reduceBNe, Int.reduceLT, Int.reduceLE, Int.reduceEq, Int.reduceGT, Int.reduceGE, Int.reduceToNat, ↓reduceIte, List.reduceReplicate, Nat.reduceAdd, Nat.reduceSub, Nat.reduceMul, Nat.reduceLT, Nat.reduceLeDiff, Nat.reduceBEq, Nat.reduceEqDiff, e1, dn]
  refine CallOb.pureH (fun w' hp => hmap _ w' hp) ?_
  intro q N hMP
  have hML := hMP.lln
  obtain ⟨am, cm, ps, rfl, hN1, hHM⟩ := hMP
  rw [List.append_nil]
  have hrM := fun (H : List HO) (h : ∀ h ∈ N, h ∈ H) => row_rdv (w0 := ⟨w, fun _ => False⟩) (h _ hN1) ⟨_, _, _, rfl, by rw [cat_len lpc_len, hHM.1], fun h => by cases h⟩
  have hrow := fun (F : Nat → Int) (a : Addr) (c : Nat) (H : List HO) (hm : ∀ h ∈ N, h ∈ H) (h : HO.row (.slice (some a) d.c.depth.length c) 3 1 (ints (rowF d.c.depth.length F)) ∈ N) => row_rdv (w0 := ⟨w, fun _ => False⟩) (hm _ h) ⟨_, _, _, rfl, by rw [cat_len i1_len, rowF_len], fun h => by cases h⟩
  refine ⟨?_⟩
  simp (config := { maxSteps := 4000000 }) only [↓sx0, ↓sx1, ↓sx2, ↓sx3, ↓sx4, ↓sx5, ↓sx6, sx0, sx1, sx2, sx3, sx4, sx5, sx6, tf33, ev3_hold, sxo, sxc, sxp, sxq, sxr, sxs, sxl, sxm, Int.reduceBEq, Int.reduceBNe, Int.reduceLT, Int.reduceLE, Int.reduceEq, Int.reduceGT, Int.reduceGE, Int.reduceToNat, ↓reduceIte, List.reduceReplicate, Nat.reduceAdd, Nat.reduceSub, Nat.reduceMul, Nat.reduceLT, Nat.reduceLeDiff, Nat.reduceBEq, Nat.reduceEqDiff]
  refine loop_constH N (HImp.refl _ _) [(4, 6), (8, 8), (23, 69)] (fun t : Nat => [(8, I t)]) (fun t H1 => t ≤ L.length ∧ (∀ i, i < t → okAt d L i) ∧ H1 = N) (fun t => L.length - t) 0 ?_ ⟨Nat.zero_le _, fun i h => by omega, rfl⟩ ?_
  · simp (config := { maxSteps := 4000000 }) only [↓sx0, ↓sx1, ↓sx2, ↓sx3, ↓sx4, ↓sx5, ↓sx6, sx0, sx1, sx2, sx3, sx4, sx5, sx6, tf33, ev3_hold, sxo, sxc, sxp, sxq, sxr, sxs, sxl, sxm, Int.reduceBEq, Int.reduceBNe, Int.reduceLT, Int.reduceLE, Int.reduceEq, Int.reduceGT, Int.reduceGE, Int.reduceToNat, ↓reduceIte, List.reduceReplicate, Nat.reduceAdd, Nat.reduceSub, Nat.reduceMul, Nat.reduceLT, Nat.reduceLeDiff, Nat.reduceBEq, Nat.reduceEqDiff]
    try simp
  rintro t H1 g1 ⟨ht, hall, rfl⟩
  by_cases htn : t = L.length
  · have e7 : ((t : Int) < (L.length : Int)) = False := eq_false (by omega)
    obtain ⟨M, hM, hway⟩ := okAt_way hlen fun i hi => hall i (by omega)
    have hS1 := dSum_bd hE M
    have hS : ∀ i, d.dSum M (i + 1) = d.dSum M i + (if d.tB M i then 0 else (d.rep i).weight) := fun _ => rfl
    have hP : ∀ i, d.posB M (i + 1) = (d.posB M i && (d.tB M i || !(d.rep i).sure)) := fun _ => rfl
    refine ⟨?_⟩
    simp (config := { maxSteps := 4000000 }) only [↓sx0, ↓sx1, ↓sx2, ↓sx3, ↓sx4, ↓sx5, ↓sx6, sx0, sx1, sx2, sx3, sx4, sx5, sx6, tf33, ev3_hold, sxo, sxc, sxp, sxq, sxr, sxs, sxl, sxm, Int.reduceBEq, Int.reduceBNe, Int.reduceLT, Int.reduceLE, Int.reduceEq, Int.reduceGT, Int.reduceGE, Int.reduceToNat, ↓reduceIte, List.reduceReplicate, Nat.reduceAdd, Nat.reduceSub, Nat.reduceMul, Nat.reduceLT, Nat.reduceLeDiff, Nat.reduceBEq, Nat.reduceEqDiff, e7]
    refine loop_constH H1 (HImp.refl _ _) [(9, 12), (70, 101)] (fun i : Nat => [(9, I (d.dSum M i)), (10, .bool (d.posB M i)), (11, I i)]) (fun i H2 => i ≤ d.rs.length ∧ H2 = H1) (fun i => d.rs.length - i) 0 ?_ ⟨Nat.zero_le _, rfl⟩ ?_
    · simp (config := { maxSteps := 4000000 }) only [↓sx0, ↓sx1, ↓sx2, ↓sx3, ↓sx4, ↓sx5, ↓sx6, sx0, sx1, sx2, sx3, sx4, sx5, sx6, tf33, ev3_hold, sxo, sxc, sxp, sxq, sxr, sxs, sxl, sxm, Int.reduceBEq, Int.reduceBNe, Int.reduceLT, Int.reduceLE, Int.reduceEq, Int.reduceGT, Int.reduceGE, Int.reduceToNat, ↓reduceIte, List.reduceReplicate, Nat.reduceAdd, Nat.reduceSub, Nat.reduceMul, Nat.reduceLT, Nat.reduceLeDiff, Nat.reduceBEq, Nat.reduceEqDiff]
      try simp [Dis.dSum, sumN, Dis.posB]
    rintro i H2 g2 ⟨hi, rfl⟩
    by_cases hin : i = d.rs.length
    · have f7 : ((i : Int) < (d.rs.length : Int)) = False := eq_false (by omega)
      subst hin
      refine ⟨?_⟩
      simp (config := { maxSteps := 4000000 }) only [↓sx0, ↓sx1, ↓sx2, ↓sx3, ↓sx4, ↓sx5, ↓sx6, sx0, sx1, sx2, sx3, sx4, sx5, sx6, tf33, ev3_hold, sxo, sxc, sxp, sxq, sxr, sxs, sxl, sxm, Int.reduceBEq, Int.reduceBNe, Int.reduceLT, Int.reduceLE, Int.reduceEq, Int.reduceGT, Int.reduceGE, Int.reduceToNat, ↓reduceIte, List.reduceReplicate, Nat.reduceAdd, Nat.reduceSub, Nat.reduceMul, Nat.reduceLT, Nat.reduceLeDiff, Nat.reduceBEq, Nat.reduceEqDiff, f7]
      exact .inl ⟨M, hM, hway, rfl⟩
    have f7 : ((i : Int) < (d.rs.length : Int)) = True := eq_true (by omega)
    have f8 : wr (i + 1) = ((i + 1 : Nat) : Int) := (wrap_id (by omega)).trans (by omega)
    have hr := (Dis.rep_mem (d := d) (i := i) (by omega)).2
    have hrk := hrep _ (List.mem_of_getElem? hr)
    obtain ⟨hrt, hr0⟩ := Dis.rep_ok hE (i := i) (by omega)
    have htB : d.tB M i = saysB d.c (d.rep i) (M.getD (d.rep i).tick.toNat 0) := rfl
    have hSi := hS i
    have hPi := hP i
    have hb1 := hS1 i (by omega)
    have hb2 := hS1 (i + 1) (by omega)
    obtain ⟨⟨x1, x2, x3, x4, x5, x6, x7, s, x9⟩, hre⟩ : ∃ r, d.rep i = r := ⟨_, rfl⟩
    rw [hre] at hr hrk hrt hr0 htB hSi hPi
    simp only [] at hrt hr0 hSi hPi
    obtain ⟨t0, rfl⟩ : ∃ t0 : Nat, x1 = t0 := ⟨x1.toNat, by omega⟩
    simp only [Int.toNat_natCast] at hrt htB
    obtain ⟨hway1, hway2, _⟩ := hway
    have hMk : M.getD t0 0 < d.c.depth.length := ((isC_iff _ _).1 hway2).1 t0 (by omega)
    have hLt : L[t0]? = some ((M.getD t0 0 : Nat) : Int) := by rw [hM]; exact zs_get (getD_at (by omega) 0)
    obtain ⟨K, hK⟩ : ∃ K, M.getD t0 0 = K := ⟨_, rfl⟩
    rw [hK] at hMk hLt htB
    have hhc := fun (H : List HO) (hm : ∀ h ∈ H2, h ∈ H) w' (hp : Hp ⟨w, fun _ => False⟩ H w') => hho w' _ (hML.ok hm hp) _ hrk K hMk
    rw [← htB] at hhc
    unfold rpv at hhc
    refine ⟨?_⟩
    simp (config := { maxSteps := 4000000 }) only [↓sx0, ↓sx1, ↓sx2, ↓sx3, ↓sx4, ↓sx5, ↓sx6, sx0, sx1, sx2, sx3, sx4, sx5, sx6, tf33, ev3_hold, sxo, sxc, sxp, sxq, sxr, sxs, sxl, sxm, Int.reduceBEq, Int.reduceBNe, Int.reduceLT, Int.reduceLE, Int.reduceEq, Int.reduceGT, Int.reduceGE, Int.reduceToNat, ↓reduceIte, List.reduceReplicate, Nat.reduceAdd, Nat.reduceSub, Nat.reduceMul, Nat.reduceLT, Nat.reduceLeDiff, Nat.reduceBEq, Nat.reduceEqDiff, f7]
    refine amid (at_n (hrR _) rpc_len (by omega) hr fun ad => ?_)
    unfold rpc
    simp (config := { maxSteps := 4000000 }) only [↓sx0, ↓sx1, ↓sx2, ↓sx3, ↓sx4, ↓sx5, ↓sx6, sx0, sx1, sx2, sx3, sx4, sx5, sx6, tf33, ev3_hold, sxo, sxc, sxp, sxq, sxr, sxs, sxl, sxm, Int.reduceBEq, Int.reduceBNe, Int.reduceLT, Int.reduceLE, Int.reduceEq, Int.reduceGT, Int.reduceGE, Int.reduceToNat, ↓reduceIte, List.reduceReplicate, Nat.reduceAdd, Nat.reduceSub, Nat.reduceMul, Nat.reduceLT, Nat.reduceLeDiff, Nat.reduceBEq, Nat.reduceEqDiff]
    refine at_1 (hrL _) i1_len hLt rfl fun ad2 => ?_
    simp (config := { maxSteps := 4000000 }) only [↓sx0, ↓sx1, ↓sx2, ↓sx3, ↓sx4, ↓sx5, ↓sx6, sx0, sx1, sx2, sx3, sx4, sx5, sx6, tf33, ev3_hold, sxo, sxc, sxp, sxq, sxr, sxs, sxl, sxm, Int.reduceBEq, Int.reduceBNe, Int.reduceLT, Int.reduceLE, Int.reduceEq, Int.reduceGT, Int.reduceGE, Int.reduceToNat, ↓reduceIte, List.reduceReplicate, Nat.reduceAdd, Nat.reduceSub, Nat.reduceMul, Nat.reduceLT, Nat.reduceLeDiff, Nat.reduceBEq, Nat.reduceEqDiff, dn]
    refine CallOb.pureH (fun w' hp => hhc _ (fun h hh => hh) w' hp) ?_
    rintro q N2 rfl
    cases hB : d.tB M i with
    | true =>
      rw [hB] at hSi hPi
      simp only [if_true, Bool.true_or, Bool.and_true, Int.add_zero] at hSi hPi
      refine ⟨?_⟩
      simp (config := { maxSteps := 4000000 }) only [↓sx0, ↓sx1, ↓sx2, ↓sx3, ↓sx4, ↓sx5, ↓sx6, sx0, sx1, sx2, sx3, sx4, sx5, sx6, tf33, ev3_hold, sxo, sxc, sxp, sxq, sxr, sxs, sxl, sxm, Int.reduceBEq, Int.reduceBNe, Int.reduceLT, Int.reduceLE, Int.reduceEq, Int.reduceGT, Int.reduceGE, Int.reduceToNat, ↓reduceIte, List.reduceReplicate, Nat.reduceAdd, Nat.reduceSub, Nat.reduceMul, Nat.reduceLT, Nat.reduceLeDiff, Nat.reduceBEq, Nat.reduceEqDiff, f8]
      exact ⟨i + 1, _, by rw [hSi, hPi]; simp, HImp.app _ _ _, ⟨by omega, rfl⟩, by omega⟩
    | false =>
      rw [hB] at hSi hPi
      simp only [Bool.false_eq_true, if_false, Bool.false_or] at hSi hPi
      have f9 : wr (d.dSum M i + x9) = d.dSum M (i + 1) := by rw [hSi]; exact wrap_id (by omega)
      obtain ⟨pb, hpb⟩ : ∃ pb, d.posB M i = pb := ⟨_, rfl⟩
      rw [hpb] at hPi ⊢
      cases pb <;> cases s
      all_goals (refine ⟨?_⟩)
      all_goals (simp (config := { maxSteps := 4000000 }) only [↓sx0, ↓sx1, ↓sx2, ↓sx3, ↓sx4, ↓sx5, ↓sx6, sx0, sx1, sx2, sx3, sx4, sx5, sx6, tf33, ev3_hold, sxo, sxc, sxp, sxq, sxr, sxs, sxl, sxm, Int.reduceBEq, Int.reduceBNe, Int.reduceLT, Int.reduceLE, Int.reduceEq, Int.reduceGT, Int.reduceGE, Int.reduceToNat, ↓reduceIte, List.reduceReplicate, Nat.reduceAdd, Nat.reduceSub, Nat.reduceMul, Nat.reduceLT, Nat.reduceLeDiff, Nat.reduceBEq, Nat.reduceEqDiff, f8, f9])
      all_goals (exact ⟨i + 1, _, by rw [hPi]; simp, HImp.app _ _ _, ⟨by omega, rfl⟩, by omega⟩)
  have e7 : ((t : Int) < (L.length : Int)) = True := eq_true (by omega)
  have e8 : wr (t + 1) = ((t + 1 : Nat) : Int) := (wrap_id (by omega)).trans (by omega)
  have hbadt := hbad t (by omega)
  obtain ⟨x, hx⟩ : ∃ x, L[t]? = some x := ⟨_, List.getElem?_eq_getElem (by omega)⟩
  refine ⟨?_⟩
  simp (config := { maxSteps := 4000000 }) only [↓sx0, ↓sx1, ↓sx2, ↓sx3, ↓sx4, ↓sx5, ↓sx6, sx0, sx1, sx2, sx3, sx4, sx5, sx6, tf33, ev3_hold, sxo, sxc, sxp, sxq, sxr, sxs, sxl, sxm, Int.reduceBEq, Int.reduceBNe, Int.reduceLT, Int.reduceLE, Int.reduceEq, Int.reduceGT, Int.reduceGE, Int.reduceToNat, ↓reduceIte, List.reduceReplicate, Nat.reduceAdd, Nat.reduceSub, Nat.reduceMul, Nat.reduceLT, Nat.reduceLeDiff, Nat.reduceBEq, Nat.reduceEqDiff, e7]
  refine cut_constH [(29, 69)] (fun b : Bool => [(69, .bool b)]) (fun b H2 => (b = true → ¬ okAt d L t) ∧ (b = false → okAt d L t) ∧ H2 = H1) ?_ ?_
  · cases hxc : inB x 0 ((d.c.depth.length : Int) - 1) with
    | false =>
      have hno : ¬ okAt d L t := fun ⟨X, h1, h2, _⟩ => by
        rw [hx] at h1
        have := Option.some.inj h1
        have h3 : inB x 0 ((d.c.depth.length : Int) - 1) = true := (inB_iff _ _ _).2 (by omega)
        rw [h3] at hxc
        cases hxc
      refine ⟨?_⟩
      simp (config := { maxSteps := 4000000 }) only [↓sx0, ↓sx1, ↓sx2, ↓sx3, ↓sx4, ↓sx5, ↓sx6, sx0, sx1, sx2, sx3, sx4, sx5, sx6, tf33, ev3_hold, sxo, sxc, sxp, sxq, sxr, sxs, sxl, sxm, Int.reduceBEq, Int.reduceBNe, Int.reduceLT, Int.reduceLE, Int.reduceEq, Int.reduceGT, Int.reduceGE, Int.reduceToNat, ↓reduceIte, List.reduceReplicate, Nat.reduceAdd, Nat.reduceSub, Nat.reduceMul, Nat.reduceLT, Nat.reduceLeDiff, Nat.reduceBEq, Nat.reduceEqDiff]
      refine at_1 (hrL _) i1_len hx rfl fun ad1 => ?_
      simp (config := { maxSteps := 4000000 }) only [↓sx0, ↓sx1, ↓sx2, ↓sx3, ↓sx4, ↓sx5, ↓sx6, sx0, sx1, sx2, sx3, sx4, sx5, sx6, tf33, ev3_hold, sxo, sxc, sxp, sxq, sxr, sxs, sxl, sxm, Int.reduceBEq, Int.reduceBNe, Int.reduceLT, Int.reduceLE, Int.reduceEq, Int.reduceGT, Int.reduceGE, Int.reduceToNat, ↓reduceIte, List.reduceReplicate, Nat.reduceAdd, Nat.reduceSub, Nat.reduceMul, Nat.reduceLT, Nat.reduceLeDiff, Nat.reduceBEq, Nat.reduceEqDiff, hU, hcell, hxc]
      exact ⟨true, _, rfl, HImp.refl _ _, fun _ => hno, (fun h => by cases h), rfl⟩
    | true =>
    have hxb := (inB_iff _ _ _).1 hxc
    obtain ⟨X, rfl⟩ : ∃ X : Nat, x = X := ⟨x.toNat, by omega⟩
    have hXn : X < d.c.depth.length := by omega
    have hmy := hmay X t hXn (by omega)
    cases hmB : d.may t X with
    | false =>
      rw [hmB] at hmy
      have hno : ¬ okAt d L t := fun ⟨X', h1, _, h2, _⟩ => by
        rw [hx] at h1
        have : X = X' := by have := Option.some.inj h1; omega
        rw [← this, hmB] at h2
        cases h2
      refine ⟨?_⟩
      simp (config := { maxSteps := 4000000 }) only [↓sx0, ↓sx1, ↓sx2, ↓sx3, ↓sx4, ↓sx5, ↓sx6, sx0, sx1, sx2, sx3, sx4, sx5, sx6, tf33, ev3_hold, sxo, sxc, sxp, sxq, sxr, sxs, sxl, sxm, Int.reduceBEq, Int.reduceBNe, Int.reduceLT, Int.reduceLE, Int.reduceEq, Int.reduceGT, Int.reduceGE, Int.reduceToNat, ↓reduceIte, List.reduceReplicate, Nat.reduceAdd, Nat.reduceSub, Nat.reduceMul, Nat.reduceLT, Nat.reduceLeDiff, Nat.reduceBEq, Nat.reduceEqDiff]
      refine at_1 (hrL _) i1_len hx rfl fun ad1 => ?_
      simp (config := { maxSteps := 4000000 }) only [↓sx0, ↓sx1, ↓sx2, ↓sx3, ↓sx4, ↓sx5, ↓sx6, sx0, sx1, sx2, sx3, sx4, sx5, sx6, tf33, ev3_hold, sxo, sxc, sxp, sxq, sxr, sxs, sxl, sxm, Int.reduceBEq, Int.reduceBNe, Int.reduceLT, Int.reduceLE, Int.reduceEq, Int.reduceGT, Int.reduceGE, Int.reduceToNat, ↓reduceIte, List.reduceReplicate, Nat.reduceAdd, Nat.reduceSub, Nat.reduceMul, Nat.reduceLT, Nat.reduceLeDiff, Nat.reduceBEq, Nat.reduceEqDiff, hU, hcell, hxc]
      refine at_1 (hrL _) i1_len hx rfl fun ad2 => ?_
      simp (config := { maxSteps := 4000000 }) only [↓sx0, ↓sx1, ↓sx2, ↓sx3, ↓sx4, ↓sx5, ↓sx6, sx0, sx1, sx2, sx3, sx4, sx5, sx6, tf33, ev3_hold, sxo, sxc, sxp, sxq, sxr, sxs, sxl, sxm, Int.reduceBEq, Int.reduceBNe, Int.reduceLT, Int.reduceLE, Int.reduceEq, Int.reduceGT, Int.reduceGE, Int.reduceToNat, ↓reduceIte, List.reduceReplicate, Nat.reduceAdd, Nat.reduceSub, Nat.reduceMul, Nat.reduceLT, Nat.reduceLeDiff, Nat.reduceBEq, Nat.reduceEqDiff, dn]
      refine CallOb.pureH (fun w' hp => hmy _ w' hp) ?_
      rintro q N2 rfl
      refine ⟨?_⟩
      simp (config := { maxSteps := 4000000 }) only [↓sx0, ↓sx1, ↓sx2, ↓sx3, ↓sx4, ↓sx5, ↓sx6, sx0, sx1, sx2, sx3, sx4, sx5, sx6, tf33, ev3_hold, sxo, sxc, sxp, sxq, sxr, sxs, sxl, sxm, Int.reduceBEq, Int.reduceBNe, Int.reduceLT, Int.reduceLE, Int.reduceEq, Int.reduceGT, Int.reduceGE, Int.reduceToNat, ↓reduceIte, List.reduceReplicate, Nat.reduceAdd, Nat.reduceSub, Nat.reduceMul, Nat.reduceLT, Nat.reduceLeDiff, Nat.reduceBEq, Nat.reduceEqDiff]
      exact ⟨true, _, rfl, HImp.app _ _ _, fun _ => hno, (fun h => by cases h), rfl⟩
    | true =>
    rw [hmB] at hmy
    cases t with
    | zero =>
      have hyes : okAt d L 0 := ⟨X, hx, hXn, hmB, fun h => by omega⟩
      have q1 : (((0 : Nat) : Int) > 0) = False := eq_false (by omega)
      refine ⟨?_⟩
      simp (config := { maxSteps := 4000000 }) only [↓sx0, ↓sx1, ↓sx2, ↓sx3, ↓sx4, ↓sx5, ↓sx6, sx0, sx1, sx2, sx3, sx4, sx5, sx6, tf33, ev3_hold, sxo, sxc, sxp, sxq, sxr, sxs, sxl, sxm, Int.reduceBEq, Int.reduceBNe, Int.reduceLT, Int.reduceLE, Int.reduceEq, Int.reduceGT, Int.reduceGE, Int.reduceToNat, ↓reduceIte, List.reduceReplicate, Nat.reduceAdd, Nat.reduceSub, Nat.reduceMul, Nat.reduceLT, Nat.reduceLeDiff, Nat.reduceBEq, Nat.reduceEqDiff]
      refine at_1 (hrL _) i1_len hx rfl fun ad1 => ?_
      simp (config := { maxSteps := 4000000 }) only [↓sx0, ↓sx1, ↓sx2, ↓sx3, ↓sx4, ↓sx5, ↓sx6, sx0, sx1, sx2, sx3, sx4, sx5, sx6, tf33, ev3_hold, sxo, sxc, sxp, sxq, sxr, sxs, sxl, sxm, Int.reduceBEq, Int.reduceBNe, Int.reduceLT, Int.reduceLE, Int.reduceEq, Int.reduceGT, Int.reduceGE, Int.reduceToNat, ↓reduceIte, List.reduceReplicate, Nat.reduceAdd, Nat.reduceSub, Nat.reduceMul, Nat.reduceLT, Nat.reduceLeDiff, Nat.reduceBEq, Nat.reduceEqDiff, hU, hcell, hxc]
      refine at_1 (hrL _) i1_len hx rfl fun ad2 => ?_
      simp (config := { maxSteps := 4000000 }) only [↓sx0, ↓sx1, ↓sx2, ↓sx3, ↓sx4, ↓sx5, ↓sx6, sx0, sx1, sx2, sx3, sx4, sx5, sx6, tf33, ev3_hold, sxo, sxc, sxp, sxq, sxr, sxs, sxl, sxm, Int.reduceBEq, Int.reduceBNe, Int.reduceLT, Int.reduceLE, Int.reduceEq, Int.reduceGT, Int.reduceGE, Int.reduceToNat, ↓reduceIte, List.reduceReplicate, Nat.reduceAdd, Nat.reduceSub, Nat.reduceMul, Nat.reduceLT, Nat.reduceLeDiff, Nat.reduceBEq, Nat.reduceEqDiff, dn]
      refine CallOb.pureH (fun w' hp => hmy _ w' hp) ?_
      rintro q N2 rfl
      refine ⟨?_⟩
      simp (config := { maxSteps := 4000000 }) only [↓sx0, ↓sx1, ↓sx2, ↓sx3, ↓sx4, ↓sx5, ↓sx6, sx0, sx1, sx2, sx3, sx4, sx5, sx6, tf33, ev3_hold, sxo, sxc, sxp, sxq, sxr, sxs, sxl, sxm, Int.reduceBEq, Int.reduceBNe, Int.reduceLT, Int.reduceLE, Int.reduceEq, Int.reduceGT, Int.reduceGE, Int.reduceToNat, ↓reduceIte, List.reduceReplicate, Nat.reduceAdd, Nat.reduceSub, Nat.reduceMul, Nat.reduceLT, Nat.reduceLeDiff, Nat.reduceBEq, Nat.reduceEqDiff, q1]
      exact ⟨false, _, rfl, HImp.app _ _ _, (fun h => by cases h), fun _ => hyes, rfl⟩
    | succ t' =>
      obtain ⟨Y, hY, hYn, _, _⟩ := hall t' (by omega)
      have q1 : (((t' + 1 : Nat) : Int) > 0) = True := eq_true (by omega)
      have q2 : wr (((t' + 1 : Nat) : Int) - 1) = (t' : Int) := (wrap_id (by omega)).trans (by omega)
      obtain ⟨aY, cY, hpY, hrY⟩ := hHM.2 Y hYn
      have hgoB : ∀ B : Bool, decide ((dst d.c.W d.c.H Y X : Int) > d.pc) = B → (B = true → ¬ okAt d L (t' + 1)) ∧ (B = false → okAt d L (t' + 1)) := fun B hB => by
        constructor
        · rintro rfl ⟨X', h1, _, _, h2⟩
          obtain ⟨Y', h3, h4⟩ := h2 (by omega)
          rw [Nat.add_sub_cancel] at h3
          rw [hx] at h1
          rw [hY] at h3
          have e1 : X = X' := by have := Option.some.inj h1; omega
          have e2 : Y = Y' := by have := Option.some.inj h3; omega
          rw [← e1, ← e2] at h4
          have := of_decide_eq_true hB
          omega
        · rintro rfl
          have := of_decide_eq_false hB
          exact ⟨X, hx, hXn, hmB, fun _ => ⟨Y, by rw [Nat.add_sub_cancel]; exact hY, by omega⟩⟩
      obtain ⟨B, hB⟩ : ∃ B, decide ((dst d.c.W d.c.H Y X : Int) > d.pc) = B := ⟨_, rfl⟩
      obtain ⟨hg1, hg2⟩ := hgoB B hB
      refine ⟨?_⟩
      simp (config := { maxSteps := 4000000 }) only [↓sx0, ↓sx1, ↓sx2, ↓sx3, ↓sx4, ↓sx5, ↓sx6, sx0, sx1, sx2, sx3, sx4, sx5, sx6, tf33, ev3_hold, sxo, sxc, sxp, sxq, sxr, sxs, sxl, sxm, Int.reduceBEq, Int.reduceBNe, Int.reduceLT, Int.reduceLE, Int.reduceEq, Int.reduceGT, Int.reduceGE, Int.reduceToNat, ↓reduceIte, List.reduceReplicate, Nat.reduceAdd, Nat.reduceSub, Nat.reduceMul, Nat.reduceLT, Nat.reduceLeDiff, Nat.reduceBEq, Nat.reduceEqDiff]
      refine at_1 (hrL _) i1_len hx rfl fun ad1 => ?_
      simp (config := { maxSteps := 4000000 }) only [↓sx0, ↓sx1, ↓sx2, ↓sx3, ↓sx4, ↓sx5, ↓sx6, sx0, sx1, sx2, sx3, sx4, sx5, sx6, tf33, ev3_hold, sxo, sxc, sxp, sxq, sxr, sxs, sxl, sxm, Int.reduceBEq, Int.reduceBNe, Int.reduceLT, Int.reduceLE, Int.reduceEq, Int.reduceGT, Int.reduceGE, Int.reduceToNat, ↓reduceIte, List.reduceReplicate, Nat.reduceAdd, Nat.reduceSub, Nat.reduceMul, Nat.reduceLT, Nat.reduceLeDiff, Nat.reduceBEq, Nat.reduceEqDiff, hU, hcell, hxc]
      refine at_1 (hrL _) i1_len hx rfl fun ad2 => ?_
      simp (config := { maxSteps := 4000000 }) only [↓sx0, ↓sx1, ↓sx2, ↓sx3, ↓sx4, ↓sx5, ↓sx6, sx0, sx1, sx2, sx3, sx4, sx5, sx6, tf33, ev3_hold, sxo, sxc, sxp, sxq, sxr, sxs, sxl, sxm, Int.reduceBEq, Int.reduceBNe, Int.reduceLT, Int.reduceLE, Int.reduceEq, Int.reduceGT, Int.reduceGE, Int.reduceToNat, ↓reduceIte, List.reduceReplicate, Nat.reduceAdd, Nat.reduceSub, Nat.reduceMul, Nat.reduceLT, Nat.reduceLeDiff, Nat.reduceBEq, Nat.reduceEqDiff, dn]
      refine CallOb.pureH (fun w' hp => hmy _ w' hp) ?_
      rintro q N2 rfl
      refine ⟨?_⟩
      simp (config := { maxSteps := 4000000 }) only [↓sx0, ↓sx1, ↓sx2, ↓sx3, ↓sx4, ↓sx5, ↓sx6, sx0, sx1, sx2, sx3, sx4, sx5, sx6, tf33, ev3_hold, sxo, sxc, sxp, sxq, sxr, sxs, sxl, sxm, Int.reduceBEq, Int.reduceBNe, Int.reduceLT, Int.reduceLE, Int.reduceEq, Int.reduceGT, Int.reduceGE, Int.reduceToNat, ↓reduceIte, List.reduceReplicate, Nat.reduceAdd, Nat.reduceSub, Nat.reduceMul, Nat.reduceLT, Nat.reduceLeDiff, Nat.reduceBEq, Nat.reduceEqDiff, q1, q2]
      refine at_1 (hrL _) i1_len hY rfl fun ad3 => ?_
      simp (config := { maxSteps := 4000000 }) only [↓sx0, ↓sx1, ↓sx2, ↓sx3, ↓sx4, ↓sx5, ↓sx6, sx0, sx1, sx2, sx3, sx4, sx5, sx6, tf33, ev3_hold, sxo, sxc, sxp, sxq, sxr, sxs, sxl, sxm, Int.reduceBEq, Int.reduceBNe, Int.reduceLT, Int.reduceLE, Int.reduceEq, Int.reduceGT, Int.reduceGE, Int.reduceToNat, ↓reduceIte, List.reduceReplicate, Nat.reduceAdd, Nat.reduceSub, Nat.reduceMul, Nat.reduceLT, Nat.reduceLeDiff, Nat.reduceBEq, Nat.reduceEqDiff]
      refine at_1 (hrM _ fun h hh => List.mem_append_right _ hh) lpc_len hpY (show lpc _ = [Value.slice (some aY) d.c.depth.length cY] from rfl) fun ad4 => ?_
      simp (config := { maxSteps := 4000000 }) only [↓sx0, ↓sx1, ↓sx2, ↓sx3, ↓sx4, ↓sx5, ↓sx6, sx0, sx1, sx2, sx3, sx4, sx5, sx6, tf33, ev3_hold, sxo, sxc, sxp, sxq, sxr, sxs, sxl, sxm, Int.reduceBEq, Int.reduceBNe, Int.reduceLT, Int.reduceLE, Int.reduceEq, Int.reduceGT, Int.reduceGE, Int.reduceToNat, ↓reduceIte, List.reduceReplicate, Nat.reduceAdd, Nat.reduceSub, Nat.reduceMul, Nat.reduceLT, Nat.reduceLeDiff, Nat.reduceBEq, Nat.reduceEqDiff]
      refine at_1 (hrL _) i1_len hx rfl fun ad5 => ?_
      simp (config := { maxSteps := 4000000 }) only [↓sx0, ↓sx1, ↓sx2, ↓sx3, ↓sx4, ↓sx5, ↓sx6, sx0, sx1, sx2, sx3, sx4, sx5, sx6, tf33, ev3_hold, sxo, sxc, sxp, sxq, sxr, sxs, sxl, sxm, Int.reduceBEq, Int.reduceBNe, Int.reduceLT, Int.reduceLE, Int.reduceEq, Int.reduceGT, Int.reduceGE, Int.reduceToNat, ↓reduceIte, List.reduceReplicate, Nat.reduceAdd, Nat.reduceSub, Nat.reduceMul, Nat.reduceLT, Nat.reduceLeDiff, Nat.reduceBEq, Nat.reduceEqDiff]
      refine at_1 (hrow _ _ _ _ (fun h hh => List.mem_append_right _ hh) hrY) i1_len (rowF_get _ hXn) rfl fun ad6 => ?_
      cases B with
      | true =>
        have q3 : ((dst d.c.W d.c.H Y X : Int) > d.pc) = True := eq_true (of_decide_eq_true hB)
        simp (config := { maxSteps := 4000000 }) only [↓sx0, ↓sx1, ↓sx2, ↓sx3, ↓sx4, ↓sx5, ↓sx6, sx0, sx1, sx2, sx3, sx4, sx5, sx6, tf33, ev3_hold, sxo, sxc, sxp, sxq, sxr, sxs, sxl, sxm, Int.reduceBEq, Int.reduceBNe, Int.reduceLT, Int.reduceLE, Int.reduceEq, Int.reduceGT, Int.reduceGE, Int.reduceToNat, ↓reduceIte, List.reduceReplicate, Nat.reduceAdd, Nat.reduceSub, Nat.reduceMul, Nat.reduceLT, Nat.reduceLeDiff, Nat.reduceBEq, Nat.reduceEqDiff, q3]
        exact ⟨true, _, rfl, HImp.app _ _ _, fun _ => hg1 rfl, (fun h => by cases h), rfl⟩
      | false =>
        have q3 : ((dst d.c.W d.c.H Y X : Int) > d.pc) = False := eq_false (of_decide_eq_false hB)
        simp (config := { maxSteps := 4000000 }) only [↓sx0, ↓sx1, ↓sx2, ↓sx3, ↓sx4, ↓sx5, ↓sx6, sx0, sx1, sx2, sx3, sx4, sx5, sx6, tf33, ev3_hold, sxo, sxc, sxp, sxq, sxr, sxs, sxl, sxm, Int.reduceBEq, Int.reduceBNe, Int.reduceLT, Int.reduceLE, Int.reduceEq, Int.reduceGT, Int.reduceGE, Int.reduceToNat, ↓reduceIte, List.reduceReplicate, Nat.reduceAdd, Nat.reduceSub, Nat.reduceMul, Nat.reduceLT, Nat.reduceLeDiff, Nat.reduceBEq, Nat.reduceEqDiff, q3]
        exact ⟨false, _, rfl, HImp.app _ _ _, (fun h => by cases h), fun _ => hg2 rfl, rfl⟩
  rintro b H2 g2 ⟨hb1, hb2, rfl⟩
  cases b with
  | true =>
    have hno := hbadt (hb1 rfl)
    refine ⟨?_⟩
    simp (config := { maxSteps := 4000000 }) only [↓sx0, ↓sx1, ↓sx2, ↓sx3, ↓sx4, ↓sx5, ↓sx6, sx0, sx1, sx2, sx3, sx4, sx5, sx6, tf33, ev3_hold, sxo, sxc, sxp, sxq, sxr, sxs, sxl, sxm, Int.reduceBEq, Int.reduceBNe, Int.reduceLT, Int.reduceLE, Int.reduceEq, Int.reduceGT, Int.reduceGE, Int.reduceToNat, ↓reduceIte, List.reduceReplicate, Nat.reduceAdd, Nat.reduceSub, Nat.reduceMul, Nat.reduceLT, Nat.reduceLeDiff, Nat.reduceBEq, Nat.reduceEqDiff]
    exact .inr hno
  | false =>
    have hyes := hb2 rfl
    refine ⟨?_⟩
    simp (config := { maxSteps := 4000000 }) only [↓sx0, ↓sx1, ↓sx2, ↓sx3, ↓sx4, ↓sx5, ↓sx6, sx0, sx1, sx2, sx3, sx4, sx5, sx6, tf33, ev3_hold, sxo, sxc, sxp, sxq, sxr, sxs, sxl, sxm, Int.reduceBEq, Int.reduceBNe, Int.reduceLT, Int.reduceLE, Int.reduceEq, Int.reduceGT, Int.reduceGE, Int.reduceToNat, ↓reduceIte, List.reduceReplicate, Nat.reduceAdd, Nat.reduceSub, Nat.reduceMul, Nat.reduceLT, Nat.reduceLeDiff, Nat.reduceBEq, Nat.reduceEqDiff, e8]
    refine ⟨t + 1, _, rfl, HImp.refl _ _, ⟨by omega, fun i hi => ?_, rfl⟩, by omega⟩
    by_cases e : i = t
    · rw [e]; exact hyes
    · exact hall i (by omega)
end Go.Proofs.YtaloedccoadedaaDoor

namespace Go.Proofs.YtaloedccoadedaaDoor
open Go.RowKit Go.SX
set_option maxRecDepth 20000
set_option maxHeartbeats 0
set_option linter.unusedSimpArgs false
set_option linter.unusedVariables false
theorem Dis.all_tru {d : Dis} (hE : d.E = 0) (M : List Nat) : (d.crs pAll).Course M ↔ d.way M ∧ ∀ i, i < d.rs.length → d.tru i M := by
  rw [Dis.course_iff hE pAll_ok]
  exact and_congr Iff.rfl ⟨fun h i hi => h i hi rfl, fun h i hi _ => h i hi⟩
theorem way_rs {d : Dis} (rs : List Rep) (M : List Nat) : (⟨d.c, d.dr, d.pc, rs⟩ : Dis).way M ↔ d.way M := by
  have h : ∀ M, (⟨d.c, d.dr, d.pc, rs⟩ : Dis).g0.isC M ↔ d.g0.isC M := fun M => by
    rw [isC_iff, isC_iff]
    exact Iff.rfl
  unfold Dis.way
  rw [h]
  exact Iff.rfl
theorem Dis.few_x {d : Dis} {t : Nat} {M : List Nat} (h : d.way M) (ht : t < d.c.tide.length) : M.getD t 0 < d.c.depth.length := ((isC_iff _ M).1 h.2.1).1 t (by rw [h.1]; exact ht)
theorem mem_chpL {n : Nat} {f : Nat → Int} {m : Int} {x : Nat} : x ∈ chpL n f m ↔ x < n ∧ f x ≤ m := by
  unfold chpL
  rw [List.mem_filter, List.mem_range, decide_eq_true_eq]
theorem mem_zs {l : List Nat} {x : Nat} : (x : Int) ∈ zs l ↔ x ∈ l := by
  unfold zs
  rw [List.mem_map]
  exact ⟨fun ⟨y, h1, h2⟩ => by have : y = x := by omega
                               subst this; exact h1, fun h => ⟨x, h, rfl⟩⟩
theorem zs_inj {L M : List Nat} (h : zs L = zs M) : L = M := by
  have h1 := congrArg (List.map Int.toNat) h
  unfold zs at h1
  rw [List.map_map, List.map_map, show (Int.toNat ∘ fun (i : Nat) => (i : Int)) = id from by funext i; simp, List.map_id, List.map_id] at h1
  exact h1
theorem Dis.mem_whr {d : Dis} (hE : d.E = 0) {t x : Nat} (ht : t < d.c.tide.length) : x ∈ d.whrL t ↔ ∃ M, (d.way M ∧ M.getD t 0 = x) ∧ ∀ i, i < d.rs.length → d.tru i M := by
  have hgo := Dis.crs_ok hE pAll_ok
  unfold Dis.whrL
  rw [mem_chpL, Int.toNat_natCast]
  constructor
  · rintro ⟨h1, h2⟩
    obtain ⟨M, h3, h4, _⟩ := (Crs.thr_iff hgo (t := t) (x := x) ht h1 (n := 0) (by decide)).1 h2
    obtain ⟨h5, h6⟩ := (Dis.all_tru hE M).1 h3
    exact ⟨M, ⟨h5, h4⟩, h6⟩
  · rintro ⟨M, ⟨h1, rfl⟩, h2⟩
    have hx := Dis.few_x h1 ht
    have hc := (Dis.all_tru hE M).2 ⟨h1, h2⟩
    refine ⟨hx, (Crs.thr_iff hgo ht hx (n := 0) (by decide)).2 ⟨M, hc, rfl, ?_⟩⟩
    rw [Dis.tot_is hE pAll_ok hc, sumN_zero fun i hi => ?_]
    · exact Int.le_refl _
    · have := h2 i hi
      unfold Dis.tru at this
      rw [this]
      rfl
theorem Dis.first_tru {d : Dis} (hE : d.E = 0) (h : (d.crs pAll).least < NV) : d.way (d.crs pAll).first ∧ ∀ i, i < d.rs.length → d.tru i (d.crs pAll).first :=
  (Dis.all_tru hE _).1 (Crs.first_ok (Dis.crs_ok hE pAll_ok) h).1
theorem Dis.dbt_zero {d : Dis} {M : List Nat} (h : ∀ i, i < d.rs.length → d.tru i M) : d.dSum M d.rs.length = 0 ∧ d.posB M d.rs.length = true := by
  refine ⟨sumN_zero fun i hi => ?_, ?_⟩
  · have h1 : d.tB M i = true := h i hi
    rw [h1]
    rfl
  · have : ∀ i, i ≤ d.rs.length → d.posB M i = true := fun i => by
      induction i with
      | zero => exact fun _ => rfl
      | succ i ih =>
        intro hi
        have h1 : d.tB M i = true := h i (by omega)
        unfold Dis.posB
        rw [ih (by omega), h1]
        rfl
    exact this _ (Nat.le_refl _)
theorem Dis.posB_iff {d : Dis} {M : List Nat} : ∀ n, d.posB M n = true ↔ ∀ i, i < n → (d.rep i).sure = true → d.tru i M := fun n => by
  induction n with
  | zero => exact ⟨fun _ i h => by omega, fun _ => rfl⟩
  | succ n ih =>
    unfold Dis.posB
    rw [Bool.and_eq_true, ih, Bool.or_eq_true, Bool.not_eq_true']
    constructor
    · rintro ⟨h1, h2⟩ i hi hs
      by_cases e : i = n
      · subst e
        rcases h2 with h2 | h2
        · exact h2
        · rw [hs] at h2; cases h2
      · exact h1 i (by omega) hs
    · intro h
      refine ⟨fun i hi => h i (by omega), ?_⟩
      cases hs : (d.rep n).sure with
      | false => exact .inr rfl
      | true => exact .inl (h n (by omega) hs)
theorem Dis.all_of_zero {d : Dis} (hE : d.E = 0) {M : List Nat} (h1 : d.dSum M d.rs.length = 0) (h2 : d.posB M d.rs.length = true) : ∀ i, i < d.rs.length → d.tru i M := by
  obtain ⟨_, _, _, _, hr⟩ := Dis.E_zero hE
  have hw := fun i (hi : i < d.rs.length) => wgt_bd ((repB_iff _ _).1 (hr _ (Dis.rep_mem hi).1)).2.2
  have h3 := (sumN_zero_iff fun i hi => by
    have := (hw i hi).1
    split <;> omega).1 h1
  intro i hi
  by_cases ht : d.tB M i = true
  · exact ht
  · have h4 := h3 i hi
    simp only [ht] at h4
    cases hs : (d.rep i).sure with
    | true => exact (Dis.posB_iff _).1 h2 i hi hs
    | false =>
      have := (hw i hi).2.2.1 hs
      simp at h4
      omega
def Dis.plus (d : Dis) (r : Rep) : Dis := ⟨d.c, d.dr, d.pc, d.rs ++ [r]⟩
theorem Dis.plus_E {d : Dis} (hE : d.E = 0) {r : Rep} (hr : repB d.c r = true) (hl : d.rs.length < 12) : (d.plus r).E = 0 := by
  obtain ⟨hok, hdr, hpc, hm, hrs⟩ := Dis.E_zero hE
  unfold Dis.E Dis.valB Dis.numB Dis.plus
  simp only []
  rw [if_pos ((okB_iff _).2 hok), if_pos]
  simp only [Bool.and_eq_true, inB_iff, decide_eq_true_eq, List.all_eq_true, List.length_append, List.length_singleton]
  refine ⟨⟨⟨hdr, hpc⟩, by omega⟩, fun x hx => ?_⟩
  rcases List.mem_append.1 hx with h | h
  · exact hrs x h
  · rw [List.mem_singleton] at h
    rw [h]
    exact hr
theorem Dis.plus_E' {d : Dis} {r : Rep} (h : (d.plus r).E = 0) : d.E = 0 := by
  obtain ⟨hok, hdr, hpc, hm, hrs⟩ := Dis.E_zero h
  unfold Dis.E Dis.valB Dis.numB
  have hm' : (d.rs ++ [r]).length ≤ 12 := hm
  rw [List.length_append, List.length_singleton] at hm'
  rw [if_pos (show d.c.okB = true from (okB_iff _).2 hok), if_pos]
  simp only [Bool.and_eq_true, inB_iff, decide_eq_true_eq, List.all_eq_true]
  exact ⟨⟨⟨hdr, hpc⟩, by omega⟩, fun x hx => hrs x (List.mem_append_left _ hx)⟩
theorem Dis.plus_tru (d : Dis) (r : Rep) (M : List Nat) : (∀ i, i < (d.plus r).rs.length → (d.plus r).tru i M) ↔ (∀ i, i < d.rs.length → d.tru i M) ∧ saysB d.c r (M.getD r.tick.toNat 0) = true := by
  have hl : (d.plus r).rs.length = d.rs.length + 1 := by unfold Dis.plus; rw [List.length_append]; rfl
  have h1 : ∀ i, i < d.rs.length → (d.plus r).rep i = d.rep i := fun i hi => by
    show (d.rs ++ [r]).getD i rep0 = d.rs.getD i rep0
    rw [List.getD_eq_getElem?_getD, List.getElem?_append_left hi, ← List.getD_eq_getElem?_getD]
  have h2 : (d.plus r).rep d.rs.length = r := by
    show (d.rs ++ [r]).getD d.rs.length rep0 = r
    rw [List.getD_eq_getElem?_getD, List.getElem?_append_right (Nat.le_refl _), Nat.sub_self]
    rfl
  constructor
  · intro h
    refine ⟨fun i hi => ?_, ?_⟩
    · have := h i (by omega)
      unfold Dis.tru at this ⊢
      rw [h1 i hi] at this
      exact this
    · have := h d.rs.length (by omega)
      unfold Dis.tru at this
      rw [h2] at this
      exact this
  · rintro ⟨h3, h4⟩ i hi
    unfold Dis.tru
    by_cases e : i < d.rs.length
    · rw [h1 i e]
      exact h3 i e
    · have : i = d.rs.length := by omega
      subst this
      rw [h2]
      exact h4
theorem Dis.plus_way (d : Dis) (r : Rep) (M : List Nat) : (d.plus r).way M ↔ d.way M := way_rs (d := d) _ M
def ring0 (t x : Nat) : Rep := ⟨t, 1, x, 0, 0, 0, 0, true, 0⟩
theorem ring0_ok {c : Cht} {t x : Nat} (ht : t < c.tide.length) (hx : x < c.depth.length) : repB c (ring0 t x) = true := by
  rw [repB_iff]
  refine ⟨⟨?_, ?_⟩, rfl, rfl⟩
  · show 0 ≤ (t : Int) ∧ (t : Int) ≤ _
    omega
  · show 0 ≤ (x : Int) ∧ (x : Int) ≤ _
    omega
theorem ring0_says {c : Cht} (hok : c.ok) {t x y : Nat} (hx : x < c.depth.length) (hy : y < c.depth.length) : saysB c (ring0 t x) y = true ↔ y = x := by
  obtain ⟨_, _, hW, hH, hlen⟩ := hok.dims
  have h : saysB c (ring0 t x) y = inB (dst c.W c.H x y : Nat) 0 0 := rfl
  have h0 := dst_zero (W := c.W) (H := c.H) (a := x) (x := y) (by rw [← hlen]; exact hx) (by rw [← hlen]; exact hy)
  rw [h, inB_iff]
  constructor
  · intro h1
    exact (h0.1 (by omega)).symm
  · intro h1
    have := h0.2 h1.symm
    omega
end Go.Proofs.YtaloedccoadedaaDoor

namespace Go.Proofs.YtaloedccoadedaaDoor
open Go.RowKit Go.SX Go.ChangeShapes Go.WideShapes Go.ChangeAt
set_option maxRecDepth 100000
abbrev laid3 : List (String × DataW Unit) := [("math/bits.deBruijn32tab", Rows.laid_math_bits_deBruijn32tab), ("math/bits.deBruijn64tab", Rows.laid_math_bits_deBruijn64tab), ("coble/chart.ways", Rows.laid_coble_chart_ways)]
theorem ways_entry {W : World} {g t fuel : Nat} {cs : Array Value} {p : List MemPlace} (hg : Tryd.prog.globalNamed "coble/chart.ways" = some g) (ht : (Tryd.prog.globals[g]?).map (·.type) = some t) (hv : W.var? Tryd.prog "coble/chart.ways" = some cs) (hd : DataW.trod (fun _ => ()) Tryd.prog W 0 (fun _ => true) false fuel t cs.toList = some (Rows.laid_coble_chart_ways, p)) : Ways W := by
  obtain rfl := Option.some.inj ((show Tryd.prog.globalNamed "coble/chart.ways" = some 0 by kernel_rfl).symm.trans hg)
  obtain rfl := Option.some.inj ((show (Tryd.prog.globals[0]?).map (·.type) = some 149 by kernel_rfl).symm.trans ht)
  obtain ⟨xs, m, _, ex, hcl, hl, hel⟩ := DataW.trod_array Tryd.underlying149 hd
  have c9 : Tryd.prog.cellsOf 148 = 3 := by kernel_rfl
  have c18 : Tryd.prog.cellsOf 149 = 18 := by kernel_rfl
  rw [c18] at hcl
  rw [c9] at hel
  have e3 : xs.map (·.1) = ways6.map fun u => (.agg [.lit (.int .i64 u.1), .lit (.int .i64 u.2.1), .lit (.int .i64 u.2.2)] : DataW Unit) := (DataW.agg.inj (Prod.mk.inj ex).1).symm
  have rows : ∀ i, i < 6 → ∃ u, ways6[i]? = some u ∧ (cs.toList.drop (i * 3)).take 3 = wyc u := by
    intro i hi
    have e4 : (xs.map (·.1))[i]? = (ways6.map fun u => (.agg [.lit (.int .i64 u.1), .lit (.int .i64 u.2.1), .lit (.int .i64 u.2.2)] : DataW Unit))[i]? := by rw [e3]
    have h6 : ways6.length = 6 := rfl
    rw [List.getElem?_map, List.getElem?_map, List.getElem?_eq_getElem (by omega : i < xs.length), List.getElem?_eq_getElem (by omega : i < ways6.length)] at e4
    simp only [Option.map_some, Option.some.injEq] at e4
    have hE := hel i hi
    rw [List.getElem?_eq_getElem (by omega : i < xs.length), show xs[i] = (xs[i].1, xs[i].2) from rfl, e4] at hE
    exact ⟨ways6[i], List.getElem?_eq_getElem _, way_of hE⟩
  intro i v hi
  have hi18 : i < 18 := by
    have := (List.getElem?_eq_some_iff.1 hi).1
    rw [cat_len wyc_len] at this
    exact this
  obtain ⟨u, hu, hr⟩ := rows (i / 3) (by omega)
  have e5 : (cat wyc ways6)[i]? = (wyc u)[i % 3]? := by
    have := cat_get wyc_len hu (show i % 3 < 3 by omega)
    rwa [show i / 3 * 3 + i % 3 = i by omega] at this
  have e6 : cs.toList[i]? = (wyc u)[i % 3]? := by
    rw [← hr, List.getElem?_take, if_pos (by omega), List.getElem?_drop, show i / 3 * 3 + i % 3 = i by omega]
  rw [World.var?_cell hg hv i, show cs[i]? = cs.toList[i]? by simp, e6, ← e5, hi]
theorem deb_entry {W : World} {g t fuel : Nat} {cs : Array Value} {p : List MemPlace} (hg : Tryd.prog.globalNamed "math/bits.deBruijn64tab" = some g) (ht : (Tryd.prog.globals[g]?).map (·.type) = some t) (hv : W.var? Tryd.prog "math/bits.deBruijn64tab" = some cs) (hd : DataW.trod (fun _ => ()) Tryd.prog W 0 (fun _ => true) false fuel t cs.toList = some (Rows.laid_math_bits_deBruijn64tab, p)) : Deb W := by
  obtain rfl := Option.some.inj ((show Tryd.prog.globalNamed "math/bits.deBruijn64tab" = some 2 by kernel_rfl).symm.trans hg)
  obtain rfl := Option.some.inj ((show (Tryd.prog.globals[2]?).map (·.type) = some 159 by kernel_rfl).symm.trans ht)
  obtain ⟨xs, m, _, ex, hcl, hl, hel⟩ := DataW.trod_array Tryd.underlying159 hd
  have c9 : Tryd.prog.cellsOf 5 = 1 := by kernel_rfl
  have c18 : Tryd.prog.cellsOf 159 = 64 := by kernel_rfl
  rw [c18] at hcl
  rw [c9] at hel
  have e3 : xs.map (·.1) = debT.map fun u => (.lit (.int .u8 u) : DataW Unit) := (DataW.agg.inj (Prod.mk.inj ex).1).symm
  intro i v hi
  have hi64 : i < 64 := (List.getElem?_eq_some_iff.1 hi).1
  have e4 : (xs.map (·.1))[i]? = (debT.map fun u => (.lit (.int .u8 u) : DataW Unit))[i]? := by rw [e3]
  have h6 : debT.length = 64 := rfl
  rw [List.getElem?_map, List.getElem?_map, List.getElem?_eq_getElem (by omega : i < xs.length), List.getElem?_eq_getElem (by omega : i < debT.length)] at e4
  simp only [Option.map_some, Option.some.injEq] at e4
  have hE := hel i hi64
  rw [List.getElem?_eq_getElem (by omega : i < xs.length), Nat.mul_one] at hE
  obtain ⟨k, e1, e2, _⟩ := DataW.trod_int Tryd.underlying5 hE
  have e5 : xs[i].1 = .lit (.int .u8 k) := by rw [e2]
  rw [e4] at e5
  simp only [DataW.lit.injEq, Lit.int.injEq, true_and] at e5
  have e6 : cs.toList[i]? = some (.int .u8 k) := by
    have h0 : ((cs.toList.drop i).take 1)[0]? = some (Value.int .u8 k) := by rw [e1]; rfl
    simpa using h0
  have e7 : (cat u8c debT)[i]? = some (.int .u8 debT[i]) := by
    have := cat_get (f := u8c) (n := 1) (fun _ => rfl) (List.getElem?_eq_getElem (by omega : i < debT.length)) (j := 0) (by decide)
    rw [Nat.mul_one, Nat.add_zero] at this
    exact this
  rw [World.var?_cell hg hv i, show cs[i]? = cs.toList[i]? by simp, e6, ← e5]
  exact e7.symm.trans hi
theorem laid3_parts {W : World} (h : laidMetH Tryd.prog laid3 W) : Ways W ∧ Deb W := by
  rw [MakeChecks.laidMetH_plain _ _ _ (by kernel_rfl)] at h
  obtain ⟨ps, ⟨_, _, _, _, _, _, _, _, _, _, ⟨_, _, _, _, _, _, hg2, ht2, hv2, hd2, ⟨_, _, _, _, _, _, hg3, ht3, hv3, hd3, _, _⟩, _⟩, _⟩, _, _⟩ := h
  exact ⟨ways_entry hg3 ht3 hv3 hd3, deb_entry hg2 ht2 hv2 hd2⟩
theorem rep_of_leaves {P : Program} {w : World} {vs : List Value} (h : Lvs P w [.int .i64, .int .i64, .int .i64, .int .i64, .int .i64, .int .i64, .int .i64, .bool, .int .i64] vs) : ∃ r, vs = rpc r := by
  cases h with | int _ h => cases h with | int _ h => cases h with | int _ h => cases h with | int _ h => cases h with | int _ h => cases h with | int _ h => cases h with | int _ h => cases h with | bool h => cases h with | int _ h => cases h with | nil => exact ⟨⟨_, _, _, _, _, _, _, _, _⟩, rfl⟩
theorem flat_rep : flat Tryd.prog 4 47 = some [.int .i64, .int .i64, .int .i64, .int .i64, .int .i64, .int .i64, .int .i64, .bool, .int .i64] := by kernel_rfl
theorem flat_dis : flat Tryd.prog 4 28 = some [.int .i64, .int .i64, .slice 3, .slice 58, .slice 3, .int .i64, .int .i64, .slice 47] := by kernel_rfl
theorem cells_rep : Tryd.prog.cellsOf 47 = 9 := by kernel_rfl
theorem rep_of {H : Type} {enc : TypeId × Value → H} {w : World} {base : Nat} {v : Value} {d : DataW H} {ps : List MemPlace} (h : Value.okWide Tryd.prog w .any base 47 v) (hd : DataW.Trod enc Tryd.prog w 0 (fun _ => true) true 47 v d ps) : ∃ r, v = rpv r := by
  obtain ⟨cs, rfl⟩ := agg_of Tryd.underlying47 h
  obtain ⟨r, hl⟩ := rep_of_leaves (lvs_of_Trod hd 4 flat_rep)
  exact ⟨r, by rw [show cs = cs.toList.toArray by simp, show cs.toList = _ from hl]; rfl⟩
theorem dis_of {H : Type} {enc : TypeId × Value → H} {w : World} {base : Nat} {v : Value} {d : DataW H} {ps : List MemPlace} (h : Value.okWide Tryd.prog w .any base 28 v) (hd : DataW.Trod enc Tryd.prog w 0 (fun _ => true) true 28 v d ps) : ∃ c, DsOk w v c := by
  obtain ⟨cs, rfl⟩ := agg_of Tryd.underlying28 h
  have hl := lvs_of_Trod hd 4 flat_dis
  rw [show (Value.agg cs).cells.toList = cs.toList from rfl] at hl
  generalize hcs : cs.toList = l at hl
  cases hl with | int _ hl => cases hl with | int _ hl => cases hl with | slice x1 _ _ _ s1 _ e1 hl => cases hl with | slice x2 _ _ _ s2 _ e2 hl => cases hl with | slice x3 _ _ _ s3 _ e3 hl => cases hl with | int _ hl => cases hl with | int _ hl => cases hl with | slice x4 _ _ _ s4 _ e4 hl =>
    cases hl
    obtain ⟨l1, h1, _⟩ := sl_ints s1 e1
    obtain ⟨l2, h2, _⟩ := sl_spans s2 e2
    obtain ⟨l3, h3, _⟩ := sl_ints s3 e3
    obtain ⟨l4, hu, _⟩ := cat_of (f := rpc) (xss := x4) fun xs hxs => rep_of_leaves (e4 xs hxs 4 _ flat_rep)
    rw [cells_rep, hu] at s4
    exact ⟨⟨⟨_, _, l1, l2, l3⟩, _, _, l4⟩, _, _, _, _, by rw [show cs = cs.toList.toArray by simp, hcs], ⟨_, _, _, rfl, h1, h2, h3⟩, s4⟩
end Go.Proofs.YtaloedccoadedaaDoor

