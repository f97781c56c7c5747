/- Parts of a proof: the symbolic walk and what it shows of single functions. -/
import Derived.Test.YtaloedccoadedaaDoorF8
import Derived.Test.YtaloedccoadedaaDoorC5
import Derived.Test.YtaloedccoadedaaDoorF7
set_option linter.all false
namespace Go.Proofs.YtaloedccoadedaaDoor
open Go.RowKit Go.SX
set_option maxRecDepth 20000
set_option maxHeartbeats 0
set_option linter.unusedSimpArgs false
set_option linter.unusedVariables false
theorem may_fn (w : World) (v : Value) (d : Dis) (hd : DsOk w v d) (hok : d.c.ok) (k t : Nat) (hk : k < d.c.depth.length) (ht : t < d.c.tide.length) : SX.Fn Tryd.prog 71 [v, I k, I t] w (fun _ => False) fun q N => q = .bool (d.may t k) := by
  obtain ⟨sD, sT, sS, sR, rfl, hc, hsR⟩ := hd
  have hov := fun (h : Int) (hh : -10000 ≤ h ∧ h ≤ 10000) (H : List HO) w' (hp : Hp ⟨w, fun _ => False⟩ H w') => over_fn w' _ d.c (hc.hp hp) hok k t h hk ht hh
  obtain ⟨_, _, _, hh, hsD, hsT, hsS⟩ := hc
  cases hh
  obtain ⟨aT, nT, cT, rfl⟩ := hsT.shape
  have hnT := hsT.le spc_len (by omega)
  subst hnT
  have hrT := hsT.rd0
  have hbd := Cht.ok.bds hok hk ht
  have hgt := getD_at ht (0, 0)
  have hthi : d.c.thi t = (d.c.tide.getD t (0, 0)).2 := rfl
  unfold Dis.may
  rw [hthi]
  rw [hthi] at hbd
  obtain ⟨⟨lo, hi⟩, hpq⟩ : ∃ pq, d.c.tide.getD t (0, 0) = pq := ⟨_, rfl⟩
  rw [hpq] at hgt hbd ⊢
  simp only [] at hbd ⊢
  have dn : ∀ (g : Nat) (xs : List Value), det0 g xs = none := fun _ _ => rfl
  refine walk [] [(1, (ones [0, 2, 3, 4, 5, 7, 12] (.ld 1 (.ld 6 (ones [8, 9] (.ld 10 (.ld 13 (ones [11, 14, 15] .fin))))))))] (det0_ok _ _) Tryd.func71 rfl Tryd.ntmps71 res71 (by kernel_rfl) no_facts ?_
  simp (config := { maxSteps := 4000000 }) only [↓sx0, ↓sx1, ↓sx2, ↓sx3, ↓sx4, ↓sx5, ↓sx6, sx0, sx1, sx2, sx3, sx4, sx5, sx6, tf71, ev3_hold, sxo, sxc, sxp, sxq, sxr, sxs, sxl, sxm, simprocAttr, dn]
  refine at_f (hrT _) spc_len hgt (o := 1) (x := I hi) rfl fun ad => ?_
  simp (config := { maxSteps := 4000000 }) only [↓sx0, ↓sx1, ↓sx2, ↓sx3, ↓sx4, ↓sx5, ↓sx6, sx0, sx1, sx2, sx3, sx4, sx5, sx6, tf71, ev3_hold, sxo, sxc, sxp, sxq, sxr, sxs, sxl, sxm, simprocAttr, dn]
  refine CallOb.pureH (fun w' hp => hov hi (by omega) _ w' hp) ?_
  rintro q N rfl
  refine ⟨?_⟩
  simp (config := { maxSteps := 4000000 }) only [↓sx0, ↓sx1, ↓sx2, ↓sx3, ↓sx4, ↓sx5, ↓sx6, sx0, sx1, sx2, sx3, sx4, sx5, sx6, tf71, ev3_hold, sxo, sxc, sxp, sxq, sxr, sxs, sxl, sxm, simprocAttr]
theorem rcentre_fn (w : World) (W k : Nat) (b x y z : Value) (hW : 1 ≤ W ∧ W ≤ 12) (hk : k < 200) : SX.Fn Tryd.prog 124 [.agg #[I W, b, x, y, z], I k] w (fun _ => False) fun q N => q = .tuple #[I (cenX W k), I (cenY W k)] := by
  have hdm := tdivmod (k := k) hW.1
  have hdm2 := tdivmod (k := k / W) (W := 2) (by omega)
  have hq : k / W ≤ k := Nat.div_le_self _ _
  have hr : k % W < W := Nat.mod_lt _ (by omega)
  unfold cenX cenY
  generalize k / W = q at *
  generalize k % W = r at *
  have e0 : ((W : Int) = 0) = False := eq_false (by omega)
  have e1 : wr (q : Int) = q := wrap_id (by omega)
  have e2 : wr (2 * (r : Int)) = 2 * (r : Int) := wrap_id (by omega)
  have e3 : wr (2 * (q : Int)) = 2 * (q : Int) := wrap_id (by omega)
  have e4 : (q : Int).tmod 2 = ((q % 2 : Nat) : Int) := hdm2.2
  have e5 : wr (2 * (r : Int) + ((q % 2 : Nat) : Int)) = 2 * (r : Int) + ((q % 2 : Nat) : Int) := wrap_id (by omega)
  refine walk [] [] (det0_ok _ _) Tryd.func124 rfl Tryd.ntmps124 res124 (by kernel_rfl) no_facts ?_
  simp (config := { maxSteps := 4000000 }) only [↓sx0, ↓sx1, ↓sx2, ↓sx3, ↓sx4, ↓sx5, ↓sx6, sx0, sx1, sx2, sx3, sx4, sx5, sx6, tf124, ev3_hold, sxo, sxc, sxp, sxq, sxr, sxs, sxl, sxm, simprocAttr, e0, hdm.1, hdm.2, e1, e2, e3, e4, e5]
def seenB (W : Nat) (r : Rep) (K k : Nat) : Bool :=
  if (k : Int) = (K : Int) then false
  else if trn r.a r.b r.c r.d > 0 then decide (trn r.a r.b (cenX W k - cenX W K) (cenY W k - cenY W K) ≥ 0) && decide (trn (cenX W k - cenX W K) (cenY W k - cenY W K) r.c r.d ≥ 0)
  else decide (trn r.a r.b (cenX W k - cenX W K) (cenY W k - cenY W K) = 0) && decide (alg r.a r.b (cenX W k - cenX W K) (cenY W k - cenY W K) > 0)
theorem seen_fn (w : World) (W K k : Nat) (b' x' y' z' : Value) (r : Rep) (hc : r.cell = K) (hW : 1 ≤ W ∧ W ≤ 12) (hK : K < 200) (hk : k < 200) (hB : beamB r = true) : SX.Fn Tryd.prog 106 [.agg #[I W, b', x', y', z'], rpv r, I k] w (fun _ => False) fun q N => q = .bool (seenB W r K k) := by
  obtain ⟨ba, bb, bc, bd⟩ := beam_bd hB
  have hck := cen_bd W k hW hk
  have hcK := cen_bd W K hW hK
  have hcenk := fun (H : List HO) w' (hp : Hp ⟨w, fun _ => False⟩ H w') => rcentre_fn w' W k b' x' y' z' hW hk
  have hcenK := fun (H : List HO) w' (hp : Hp ⟨w, fun _ => False⟩ H w') => rcentre_fn w' W K b' x' y' z' hW hK
  obtain ⟨x1, kd, cl, a, b, c4, d4, s, x9⟩ := r
  simp only [] at hc ba bb bc bd
  subst hc
  have f0 := (wtrn_eq ba bb bc bd).1
  obtain ⟨X, hX⟩ : ∃ X, cenX W k - cenX W K = X := ⟨_, rfl⟩
  obtain ⟨Y, hY⟩ : ∃ Y, cenY W k - cenY W K = Y := ⟨_, rfl⟩
  have hXb : -1000 ≤ X ∧ X ≤ 1000 := by omega
  have hYb : -1000 ≤ Y ∧ Y ≤ 1000 := by omega
  have cx' : wr (cenX W k - cenX W K) = X := by rw [hX]; exact wrap_id (by omega)
  have cy' : wr (cenY W k - cenY W K) = Y := by rw [hY]; exact wrap_id (by omega)
  have f1 := wtrn_eq2 (a := a) (b := b) (c := X) (d := Y) (A := 1000) (B := 1000) (by omega) (by omega) (by omega) (by omega) hXb hYb
  have f2 := (wtrn_eq2 (a := X) (b := Y) (c := c4) (d := d4) (A := 1000) (B := 1000) (by omega) (by omega) hXb hYb (by omega) (by omega)).1
  have f3 : IntKind.i64.wrap (IntKind.i64.wrap (a * X) + IntKind.i64.wrap (b * Y)) = alg a b X Y := f1.2
  have f1 := f1.1
  unfold seenB rpv
  simp only [hX, hY]
  have dn : ∀ xs, detT 124 xs = none := fun _ => rfl
  refine walk [] [] (detT_ok _ _) Tryd.func106 rfl Tryd.ntmps106 res106 (by kernel_rfl) no_facts ?_
  simp (config := { maxSteps := 4000000 }) only [↓sx0, ↓sx1, ↓sx2, ↓sx3, ↓sx4, ↓sx5, ↓sx6, sx0, sx1, sx2, sx3, sx4, sx5, sx6, tf106, ev3_hold, sxo, sxc, sxp, sxq, sxr, sxs, sxl, sxm, simprocAttr, dn]
  refine CallOb.pureH (fun w' hp => hcenK _ w' hp) ?_
  rintro q N rfl
  refine ⟨?_⟩
  simp (config := { maxSteps := 4000000 }) only [↓sx0, ↓sx1, ↓sx2, ↓sx3, ↓sx4, ↓sx5, ↓sx6, sx0, sx1, sx2, sx3, sx4, sx5, sx6, tf106, ev3_hold, sxo, sxc, sxp, sxq, sxr, sxs, sxl, sxm, simprocAttr, dn]
  refine CallOb.pureH (fun w' hp => hcenk _ w' hp) ?_
  rintro q N2 rfl
  by_cases hkK : (k : Int) = (K : Int)
  · have p1 : ((k : Int) = (K : Int)) = True := eq_true hkK
    rw [if_pos hkK]
    refine ⟨?_⟩
    simp (config := { maxSteps := 4000000 }) only [↓sx0, ↓sx1, ↓sx2, ↓sx3, ↓sx4, ↓sx5, ↓sx6, sx0, sx1, sx2, sx3, sx4, sx5, sx6, tf106, ev3_hold, sxo, sxc, sxp, sxq, sxr, sxs, sxl, sxm, simprocAttr, p1]
  have p1 : ((k : Int) = (K : Int)) = False := eq_false hkK
  rw [if_neg hkK]
  by_cases ht : trn a b c4 d4 > 0
  · have p2 : (trn a b c4 d4 > 0) = True := eq_true ht
    rw [if_pos ht]
    by_cases h1 : trn a b X Y ≥ 0
    · have p3 : (trn a b X Y ≥ 0) = True := eq_true h1
      refine ⟨?_⟩
      simp (config := { maxSteps := 4000000 }) only [↓sx0, ↓sx1, ↓sx2, ↓sx3, ↓sx4, ↓sx5, ↓sx6, sx0, sx1, sx2, sx3, sx4, sx5, sx6, tf106, ev3_hold, sxo, sxc, sxp, sxq, sxr, sxs, sxl, sxm, simprocAttr, p1, cx', cy', detT_eq, f0, f1, f2, p2, p3]
      all_goals first | rfl | simp [h1]
    · have p3 : (trn a b X Y ≥ 0) = False := eq_false h1
      refine ⟨?_⟩
      simp (config := { maxSteps := 4000000 }) only [↓sx0, ↓sx1, ↓sx2, ↓sx3, ↓sx4, ↓sx5, ↓sx6, sx0, sx1, sx2, sx3, sx4, sx5, sx6, tf106, ev3_hold, sxo, sxc, sxp, sxq, sxr, sxs, sxl, sxm, simprocAttr, p1, cx', cy', detT_eq, f0, f1, f2, p2, p3]
      all_goals first | rfl | simp [h1]
  · have p2 : (trn a b c4 d4 > 0) = False := eq_false ht
    rw [if_neg ht]
    by_cases h1 : trn a b X Y = 0
    · have p3 : (trn a b X Y = 0) = True := eq_true h1
      refine ⟨?_⟩
      simp (config := { maxSteps := 4000000 }) only [↓sx0, ↓sx1, ↓sx2, ↓sx3, ↓sx4, ↓sx5, ↓sx6, sx0, sx1, sx2, sx3, sx4, sx5, sx6, tf106, ev3_hold, sxo, sxc, sxp, sxq, sxr, sxs, sxl, sxm, simprocAttr, p1, cx', cy', detT_eq, f0, f1, f3, p2, p3]
      all_goals first | rfl | simp [h1]
    · have p3 : (trn a b X Y = 0) = False := eq_false h1
      refine ⟨?_⟩
      simp (config := { maxSteps := 4000000 }) only [↓sx0, ↓sx1, ↓sx2, ↓sx3, ↓sx4, ↓sx5, ↓sx6, sx0, sx1, sx2, sx3, sx4, sx5, sx6, tf106, ev3_hold, sxo, sxc, sxp, sxq, sxr, sxs, sxl, sxm, simprocAttr, p1, cx', cy', detT_eq, f0, f1, f3, p2, p3]
      all_goals first | rfl | simp [h1]
theorem holds_fn (w : World) (sD sT sS vm : Value) (c : Cht) (hok : c.ok) (hm : LLOk i1 1 w vm (apL c)) (r : Rep) (hr : repB c r = true) (k : Nat) (hk : k < c.depth.length) :
    SX.Fn Tryd.prog 72 [.agg #[I c.wide, I c.high, sD, sT, sS], vm, rpv r, I k] w (fun _ => False) fun q N => q = .bool (saysB c r k) := by
  obtain ⟨hrt, hrs, hrw⟩ := (repB_iff _ _).1 hr
  obtain ⟨pa, aA, cA, rfl, hal, hsA, hAt⟩ := hm.at i1_len (by decide)
  have hAl : (apL c).length = c.depth.length := rowF_len _ _
  rw [hAl] at hsA hal ⊢
  have hrA := fun H => hsA.rd0 H
  obtain ⟨eW, _, hW, hH, hlen⟩ := hok.dims
  have h144 : c.depth.length ≤ 144 := by rw [hlen]; exact Nat.le_trans (Nat.mul_le_mul hW.2 hH.2) (by decide)
  obtain ⟨K, hK⟩ : ∃ K : Nat, r.cell = K := ⟨r.cell.toNat, by omega⟩
  have hKn : K < c.depth.length := by omega
  obtain ⟨a3, c3, hpa, hs3⟩ := hAt K _ (ap_get c hKn)
  have hapl : (apRow c K).length = c.depth.length := rowF_len _ _
  have hr3 := hs3.rd0
  rw [hapl] at hpa hr3
  have hdk := ap_get2 c K hk
  have hdm := tdivmod (k := k) hW.1
  have hkd := shp_kind hrs
  have hse := fun (hB : beamB r = true) (H : List HO) w' (hp : Hp ⟨w, fun _ => False⟩ H w') => seen_fn w' c.W K k (I c.high) sD sT sS r hK hW (by omega) (by omega) hB
  have e0 : ((c.W : Int) = 0) = False := eq_false (by omega)
  have hq : k / c.W ≤ k := Nat.div_le_self _ _
  have e1 : wr ((k / c.W : Nat) : Int) = ((k / c.W : Nat) : Int) := by
    generalize k / c.W = q at hq ⊢
    exact wrap_id (by omega)
  rw [eW]
  have hseen : ∀ a, a = seenB c.W r K k → r.kind = 2 → saysB c r k = a := fun a h h2 => by
    rw [h]
    unfold saysB seenB
    rw [if_neg (by omega), if_neg (by omega), if_neg (by omega), hK, Int.toNat_natCast]
  have hs := hseen _ rfl
  obtain ⟨x1, kd, cl, a, b, c4, d4, s, x9⟩ := r
  simp only [] at hK hkd hs
  subst hK
  unfold rpv at hse ⊢
  rcases hkd with h | h | h | ⟨h, hB⟩
  · have q1 : (kd = 1) = True := eq_true h
    unfold saysB
    simp only [Int.toNat_natCast]
    rw [if_pos h]
    refine walk [] [] (detT_ok _ _) Tryd.func72 rfl Tryd.ntmps72 res72 (by kernel_rfl) no_facts ?_
    simp (config := { maxSteps := 4000000 }) only [↓sx0, ↓sx1, ↓sx2, ↓sx3, ↓sx4, ↓sx5, ↓sx6, sx0, sx1, sx2, sx3, sx4, sx5, sx6, tf72, ev3_hold, sxo, sxc, sxp, sxq, sxr, sxs, sxl, sxm, simprocAttr, q1]
    refine at_1 (hrA _) lpc_len hpa (show lpc _ = [Value.slice a3 c.depth.length c3] from rfl) fun ad1 => ?_
    simp (config := { maxSteps := 4000000 }) only [↓sx0, ↓sx1, ↓sx2, ↓sx3, ↓sx4, ↓sx5, ↓sx6, sx0, sx1, sx2, sx3, sx4, sx5, sx6, tf72, ev3_hold, sxo, sxc, sxp, sxq, sxr, sxs, sxl, sxm, simprocAttr]
    refine at_1 (hr3 _) i1_len hdk rfl fun ad2 => ?_
    simp (config := { maxSteps := 4000000 }) only [↓sx0, ↓sx1, ↓sx2, ↓sx3, ↓sx4, ↓sx5, ↓sx6, sx0, sx1, sx2, sx3, sx4, sx5, sx6, tf72, ev3_hold, sxo, sxc, sxp, sxq, sxr, sxs, sxl, sxm, simprocAttr, detT_eq]
  · have q1 : (kd = 1) = False := eq_false (by omega)
    have q2 : (kd = 2) = False := eq_false (by omega)
    have q3 : (kd = 3) = True := eq_true h
    unfold saysB
    simp only [Int.toNat_natCast]
    rw [if_neg (by omega), if_pos h]
    refine walk [] [] (detT_ok _ _) Tryd.func72 rfl Tryd.ntmps72 res72 (by kernel_rfl) no_facts ?_
    cases h1 : inB ((k / c.W : Nat) : Int) a b with
    | false =>
      simp (config := { maxSteps := 4000000 }) only [↓sx0, ↓sx1, ↓sx2, ↓sx3, ↓sx4, ↓sx5, ↓sx6, sx0, sx1, sx2, sx3, sx4, sx5, sx6, tf72, ev3_hold, sxo, sxc, sxp, sxq, sxr, sxs, sxl, sxm, simprocAttr, q1, q2, q3, detT_eq, e0, e1, hdm.1, h1]
      all_goals first | rfl | simp
    | true =>
      simp (config := { maxSteps := 4000000 }) only [↓sx0, ↓sx1, ↓sx2, ↓sx3, ↓sx4, ↓sx5, ↓sx6, sx0, sx1, sx2, sx3, sx4, sx5, sx6, tf72, ev3_hold, sxo, sxc, sxp, sxq, sxr, sxs, sxl, sxm, simprocAttr, q1, q2, q3, detT_eq, e0, e1, hdm.1, hdm.2, h1]
      all_goals first | rfl | simp
  · have q1 : (kd = 1) = False := eq_false (by omega)
    have q2 : (kd = 2) = False := eq_false (by omega)
    have q3 : (kd = 3) = False := eq_false (by omega)
    unfold saysB
    simp only [Int.toNat_natCast]
    rw [if_neg (by omega), if_neg (by omega), if_pos h]
    refine walk [] [] (detT_ok _ _) Tryd.func72 rfl Tryd.ntmps72 res72 (by kernel_rfl) no_facts ?_
    simp (config := { maxSteps := 4000000 }) only [↓sx0, ↓sx1, ↓sx2, ↓sx3, ↓sx4, ↓sx5, ↓sx6, sx0, sx1, sx2, sx3, sx4, sx5, sx6, tf72, ev3_hold, sxo, sxc, sxp, sxq, sxr, sxs, sxl, sxm, simprocAttr, q1, q2, q3]
    refine at_1 (hrA _) lpc_len hpa (show lpc _ = [Value.slice a3 c.depth.length c3] from rfl) fun ad1 => ?_
    simp (config := { maxSteps := 4000000 }) only [↓sx0, ↓sx1, ↓sx2, ↓sx3, ↓sx4, ↓sx5, ↓sx6, sx0, sx1, sx2, sx3, sx4, sx5, sx6, tf72, ev3_hold, sxo, sxc, sxp, sxq, sxr, sxs, sxl, sxm, simprocAttr]
    refine at_1 (hr3 _) i1_len hdk rfl fun ad2 => ?_
    simp (config := { maxSteps := 4000000 }) only [↓sx0, ↓sx1, ↓sx2, ↓sx3, ↓sx4, ↓sx5, ↓sx6, sx0, sx1, sx2, sx3, sx4, sx5, sx6, tf72, ev3_hold, sxo, sxc, sxp, sxq, sxr, sxs, sxl, sxm, simprocAttr]
  have q1 : (kd = 1) = False := eq_false (by omega)
  have q2 : (kd = 2) = True := eq_true h
  rw [hs h]
  have hse := hse hB
  obtain ⟨B, hBe⟩ : ∃ B, seenB c.W ⟨x1, kd, (K : Int), a, b, c4, d4, s, x9⟩ K k = B := ⟨_, rfl⟩
  rw [hBe]
  simp only [hBe] at hse
  have dn : ∀ xs, detT 106 xs = none := fun _ => rfl
  refine walk [] [] (detT_ok _ _) Tryd.func72 rfl Tryd.ntmps72 res72 (by kernel_rfl) no_facts ?_
  simp (config := { maxSteps := 4000000 }) only [↓sx0, ↓sx1, ↓sx2, ↓sx3, ↓sx4, ↓sx5, ↓sx6, sx0, sx1, sx2, sx3, sx4, sx5, sx6, tf72, ev3_hold, sxo, sxc, sxp, sxq, sxr, sxs, sxl, sxm, simprocAttr, q1, q2, dn]
  refine CallOb.pureH (fun w' hp => hse _ w' hp) ?_
  rintro q N rfl
  refine ⟨?_⟩
  simp (config := { maxSteps := 4000000 }) only [↓sx0, ↓sx1, ↓sx2, ↓sx3, ↓sx4, ↓sx5, ↓sx6, sx0, sx1, sx2, sx3, sx4, sx5, sx6, tf72, ev3_hold, sxo, sxc, sxp, sxq, sxr, sxs, sxl, sxm, simprocAttr]
end Go.Proofs.YtaloedccoadedaaDoor

namespace Go.Proofs.YtaloedccoadedaaDoor
open Go.RowKit Go.SX
set_option maxRecDepth 20000
set_option maxHeartbeats 0
set_option linter.unusedSimpArgs false
set_option linter.unusedVariables false
def MapP (c : Cht) (q : Value) (N : List HO) : Prop := ∃ ao co ps, q = .slice (some ao) c.depth.length co ∧ HO.row (.slice (some ao) c.depth.length co) 22 1 (cat lpc ps) ∈ N ∧ HasR c.depth.length c.depth.length ps (fun a b => (dst c.W c.H a b : Int)) N
theorem MapP.lln {c : Cht} {q : Value} {N : List HO} (h : MapP c q N) : LLN i1 1 22 3 N q (apL c) := by
  obtain ⟨ao, co, ps, rfl, h1, h2, h3⟩ := h
  refine ⟨ps, ?_, h1, fun p hp => ?_⟩
  · refine List.ext_getElem? fun i => ?_
    rw [List.getElem?_map]
    by_cases hi : i < c.depth.length
    · obtain ⟨a, c', k1, _⟩ := h3 i hi
      rw [k1, ap_get c hi]
      rfl
    · rw [List.getElem?_eq_none (by omega), List.getElem?_eq_none (by unfold apL; rw [List.length_map, List.length_range]; omega)]
      rfl
  · obtain ⟨i, hi⟩ := List.getElem?_of_mem hp
    have hlt := (List.getElem?_eq_some_iff.1 hi).1
    obtain ⟨a, c', k1, k2⟩ := h3 i (by omega)
    rw [hi] at k1
    cases k1
    exact k2
theorem MapP.mono {c : Cht} {q : Value} {N N' : List HO} (h : MapP c q N) (hm : ∀ h ∈ N, h ∈ N') : MapP c q N' := by
  obtain ⟨ao, co, ps, h0, h1, h2⟩ := h
  exact ⟨ao, co, ps, h0, hm _ h1, h2.mono hm⟩
theorem map_fn (w : World) (hw : Ways w) (sD sT sS : Value) (c : Cht) (hok : c.ok) : SX.Fn Tryd.prog 67 [.agg #[I c.wide, I c.high, sD, sT, sS]] w (fun _ => False) (MapP c) := by
  obtain ⟨eW, eH, hW, hH, hlen⟩ := hok.dims
  have h144 : c.depth.length ≤ 144 := by rw [hlen]; exact Nat.le_trans (Nat.mul_le_mul hW.2 hH.2) (by decide)
  have h1 : 1 ≤ c.depth.length := by rw [hlen]; exact Nat.mul_le_mul hW.1 hH.1
  have hst := fun (a : Nat) (ha : a < c.W * c.H) (H : List HO) w' (hp : Hp ⟨w, fun _ => False⟩ H w') => steps_fn w' (hw.hp hp) c.W c.H a sD sT sS hW hH ha
  have hce : detC 79 [.agg #[I c.W, I c.H, sD, sT, sS]] = some (I (wr ((c.W : Int) * c.H))) := rfl
  have ewh : IntKind.i64.wrap ((c.W : Int) * c.H) = (c.depth.length : Int) := by rw [hlen]; exact (wrap_id (by rw [← Int.natCast_mul, ← hlen]; omega)).trans (by simp)
  have dn : ∀ xs, detC 95 xs = none := fun _ => rfl
  unfold MapP
  have hrF : ∀ a, apRow c a = rowF c.depth.length fun b => (dst c.W c.H a b : Int) := fun _ => rfl
  obtain ⟨F, hF⟩ : ∃ F : Nat → Nat → Int, (fun a b => (dst c.W c.H a b : Int)) = F := ⟨_, rfl⟩
  have hrF : ∀ a, apRow c a = rowF c.depth.length (F a) := fun a => by rw [hrF, ← hF]
  rw [hF]
  have hrow : ∀ (a : Nat) (l : List Int), a < c.depth.length → l.length = c.W * c.H → (∀ t k, t < c.W * c.H → isD c.W c.H a t k → lv l t = k) → l = apRow c a := fun a l ha hl h => by
    refine List.ext_getElem? fun i => ?_
    by_cases hi : i < c.depth.length
    · rw [ap_get2 c a hi, List.getElem?_eq_getElem (by rw [hl, ← hlen]; exact hi)]
      have := h i _ (by rw [← hlen]; exact hi) (dst_is (by rw [← hlen]; exact ha) (by rw [← hlen]; exact hi))
      unfold lv at this
      rw [List.getD_eq_getElem?_getD, List.getElem?_eq_getElem (by rw [hl, ← hlen]; exact hi)] at this
      simpa using this
    · rw [List.getElem?_eq_none (by rw [hl, ← hlen]; omega), List.getElem?_eq_none (by unfold apRow; rw [List.length_map, List.length_range]; omega)]
  rw [eW, eH]
  simp only [← hlen] at hst hrow
  obtain ⟨n, hn⟩ : ∃ n, c.depth.length = n := ⟨_, rfl⟩
  simp only [hn] at *
  refine walk [] [] (detC_ok _ _) Tryd.func67 rfl Tryd.ntmps67 res67 (by kernel_rfl) no_facts ?_
  simp (config := { maxSteps := 4000000 }) only [↓sx0, ↓sx1, ↓sx2, ↓sx3, ↓sx4, ↓sx5, ↓sx6, sx0, sx1, sx2, sx3, sx4, sx5, sx6, tf67, ev3_hold, sxo, sxc, sxp, sxq, sxr, sxs, sxl, sxm, simprocAttr]
  refine loop_constH [HO.row (.slice none 0 0) 22 1 (cat lpc ([] : List (Lp Int)))] ((HImp.nil _ _).trans (HImp.nilRow _ _ _ _)) [(3, 16)] (fun q : Nat × Option Addr × Nat => [(3, .slice q.2.1 q.1 q.2.2), (4, I q.1)])
    (fun q H1 => q.1 ≤ n ∧ ∃ ps DF, (q.2.1 = none → q.1 = 0) ∧ H1 = HO.row (.slice q.2.1 q.1 q.2.2) 22 1 (cat lpc (ps : List (Lp Int))) :: DF ∧ HasR n q.1 ps F DF) (fun q => n - q.1) (0, none, 0) ?_ ⟨Nat.zero_le _, [], [], fun _ => rfl, rfl, rfl, fun s hs => by simp only [] at hs; omega⟩ ?_
  · simp (config := { maxSteps := 4000000 }) only [↓sx0, ↓sx1, ↓sx2, ↓sx3, ↓sx4, ↓sx5, ↓sx6, sx0, sx1, sx2, sx3, sx4, sx5, sx6, tf67, ev3_hold, sxo, sxc, sxp, sxq, sxr, sxs, sxl, sxm, simprocAttr]
    try simp
  rintro ⟨i, ao, co⟩ H1 g1 hinv
  simp only [] at hinv
  obtain ⟨hi, ps, DF, hnil, rfl, hDF⟩ := hinv
  by_cases hin : i = n
  · have e7 : ((i : Int) < (n : Int)) = False := eq_false (by omega)
    subst hin
    cases ao with
    | none => exact absurd (hnil rfl) (by omega)
    | some ao =>
    refine ⟨?_⟩
    simp (config := { maxSteps := 4000000 }) only [↓sx0, ↓sx1, ↓sx2, ↓sx3, ↓sx4, ↓sx5, ↓sx6, sx0, sx1, sx2, sx3, sx4, sx5, sx6, tf67, ev3_hold, sxo, sxc, sxp, sxq, sxr, sxs, sxl, sxm, simprocAttr, hce, ewh, e7]
    exact ⟨ao, co, ps, rfl, List.mem_cons_self, hDF.mono fun h hh => List.mem_cons_of_mem _ hh⟩
  have e7 : ((i : Int) < (n : Int)) = True := eq_true (by omega)
  have e8 : wr (i + 1) = ((i + 1 : Nat) : Int) := (wrap_id (by omega)).trans (by omega)
  have hpl : ps.length = i := hDF.1
  refine ⟨?_⟩
  simp (config := { maxSteps := 4000000 }) only [↓sx0, ↓sx1, ↓sx2, ↓sx3, ↓sx4, ↓sx5, ↓sx6, sx0, sx1, sx2, sx3, sx4, sx5, sx6, tf67, ev3_hold, sxo, sxc, sxp, sxq, sxr, sxs, sxl, sxm, simprocAttr, hce, ewh, e7, dn]
  refine CallOb.pureH (fun w' hp => hst i (by omega) _ w' hp) ?_
  rintro q N ⟨b, l, rfl, hN, hll, hlv⟩
  have hle := hrow i l (by omega) hll hlv
  subst hle
  refine ⟨?_⟩
  simp (config := { maxSteps := 4000000 }) only [↓sx0, ↓sx1, ↓sx2, ↓sx3, ↓sx4, ↓sx5, ↓sx6, sx0, sx1, sx2, sx3, sx4, sx5, sx6, tf67, ev3_hold, sxo, sxc, sxp, sxq, sxr, sxs, sxl, sxm, simprocAttr]
  intro b3
  refine app_one (f := lpc) (l := ps) ((apRow c i, some ⟨b, 0, none⟩, n, n) : Lp Int) (A := N ++ DF) (HImp.perm List.perm_middle) lpc_len lpc_one (by omega) fun a3 c3 => ?_
  rw [hpl]
  simp (config := { maxSteps := 4000000 }) only [↓sx0, ↓sx1, ↓sx2, ↓sx3, ↓sx4, ↓sx5, ↓sx6, sx0, sx1, sx2, sx3, sx4, sx5, sx6, tf67, ev3_hold, sxo, sxc, sxp, sxq, sxr, sxs, sxl, sxm, simprocAttr, e8]
  refine ⟨(i + 1, some a3, c3), _, ⟨rfl, rfl⟩, HImp.refl _ _, ⟨by simp only []; omega, _, N ++ DF, fun h => (by cases h), rfl, by simp only []; rw [List.length_append, hpl]; rfl, fun s hs => ?_⟩, by simp only []; omega⟩
  simp only [] at hs
  by_cases e : s < i
  · obtain ⟨a, c', k1, k2⟩ := hDF.2 s e
    exact ⟨a, c', by rw [List.getElem?_append_left (by omega)]; exact k1, List.mem_append_right _ k2⟩
  · have : s = i := by omega
    subst this
    rw [← hrF]
    exact ⟨⟨b, 0, none⟩, n, by rw [List.getElem?_append_right (by omega), hpl, Nat.sub_self]; rfl, List.mem_append_left _ hN⟩
end Go.Proofs.YtaloedccoadedaaDoor

namespace Go.Proofs.YtaloedccoadedaaDoor
open Go.RowKit Go.SX
set_option maxRecDepth 20000
set_option maxHeartbeats 0
set_option linter.unusedSimpArgs false
set_option linter.unusedVariables false
theorem Dis.all_tru {d : Dis} (hE : d.E = 0) (M : List Nat) : (d.crs pAll).Course M ↔ d.way M ∧ ∀ i, i < d.rs.length → d.tru i M := by
  rw [Dis.course_iff hE pAll_ok]
  exact and_congr Iff.rfl ⟨fun h i hi => h i hi rfl, fun h i hi _ => h i hi⟩
theorem Dis.first_tru {d : Dis} (hE : d.E = 0) (h : (d.crs pAll).least < NV) : d.way (d.crs pAll).first ∧ ∀ i, i < d.rs.length → d.tru i (d.crs pAll).first :=
  (Dis.all_tru hE _).1 (Crs.first_ok (Dis.crs_ok hE pAll_ok) h).1
end Go.Proofs.YtaloedccoadedaaDoor

namespace Go.Proofs.YtaloedccoadedaaDoor
open Go.RowKit Go.SX Go.ChangeShapes Go.WideShapes Go.ChangeAt
set_option maxRecDepth 100000
abbrev laid3 : List (String × DataW Unit) := [("math/bits.deBruijn32tab", Rows.laid_math_bits_deBruijn32tab), ("math/bits.deBruijn64tab", Rows.laid_math_bits_deBruijn64tab), ("coble/chart.ways", Rows.laid_coble_chart_ways)]
theorem ways_entry {W : World} {g t fuel : Nat} {cs : Array Value} {p : List MemPlace} (hg : Tryd.prog.globalNamed "coble/chart.ways" = some g) (ht : (Tryd.prog.globals[g]?).map (·.type) = some t) (hv : W.var? Tryd.prog "coble/chart.ways" = some cs) (hd : DataW.trod (fun _ => ()) Tryd.prog W 0 (fun _ => true) false fuel t cs.toList = some (Rows.laid_coble_chart_ways, p)) : Ways W := by
  obtain rfl := Option.some.inj ((show Tryd.prog.globalNamed "coble/chart.ways" = some 0 by kernel_rfl).symm.trans hg)
  obtain rfl := Option.some.inj ((show (Tryd.prog.globals[0]?).map (·.type) = some 149 by kernel_rfl).symm.trans ht)
  obtain ⟨xs, m, _, ex, hcl, hl, hel⟩ := DataW.trod_array Tryd.underlying149 hd
  have c9 : Tryd.prog.cellsOf 148 = 3 := by kernel_rfl
  have c18 : Tryd.prog.cellsOf 149 = 18 := by kernel_rfl
  rw [c18] at hcl
  rw [c9] at hel
  have e3 : xs.map (·.1) = ways6.map fun u => (.agg [.lit (.int .i64 u.1), .lit (.int .i64 u.2.1), .lit (.int .i64 u.2.2)] : DataW Unit) := (DataW.agg.inj (Prod.mk.inj ex).1).symm
  have rows : ∀ i, i < 6 → ∃ u, ways6[i]? = some u ∧ (cs.toList.drop (i * 3)).take 3 = wyc u := by
    intro i hi
    have e4 : (xs.map (·.1))[i]? = (ways6.map fun u => (.agg [.lit (.int .i64 u.1), .lit (.int .i64 u.2.1), .lit (.int .i64 u.2.2)] : DataW Unit))[i]? := by rw [e3]
    have h6 : ways6.length = 6 := rfl
    rw [List.getElem?_map, List.getElem?_map, List.getElem?_eq_getElem (by omega : i < xs.length), List.getElem?_eq_getElem (by omega : i < ways6.length)] at e4
    simp only [Option.map_some, Option.some.injEq] at e4
    have hE := hel i hi
    rw [List.getElem?_eq_getElem (by omega : i < xs.length), show xs[i] = (xs[i].1, xs[i].2) from rfl, e4] at hE
    exact ⟨ways6[i], List.getElem?_eq_getElem _, way_of hE⟩
  intro i v hi
  have hi18 : i < 18 := by
    have := (List.getElem?_eq_some_iff.1 hi).1
    rw [cat_len wyc_len] at this
    exact this
  obtain ⟨u, hu, hr⟩ := rows (i / 3) (by omega)
  have e5 : (cat wyc ways6)[i]? = (wyc u)[i % 3]? := by
    have := cat_get wyc_len hu (show i % 3 < 3 by omega)
    rwa [show i / 3 * 3 + i % 3 = i by omega] at this
  have e6 : cs.toList[i]? = (wyc u)[i % 3]? := by
    rw [← hr, List.getElem?_take, if_pos (by omega), List.getElem?_drop, show i / 3 * 3 + i % 3 = i by omega]
  rw [World.var?_cell hg hv i, show cs[i]? = cs.toList[i]? by simp, e6, ← e5, hi]
theorem deb_entry {W : World} {g t fuel : Nat} {cs : Array Value} {p : List MemPlace} (hg : Tryd.prog.globalNamed "math/bits.deBruijn64tab" = some g) (ht : (Tryd.prog.globals[g]?).map (·.type) = some t) (hv : W.var? Tryd.prog "math/bits.deBruijn64tab" = some cs) (hd : DataW.trod (fun _ => ()) Tryd.prog W 0 (fun _ => true) false fuel t cs.toList = some (Rows.laid_math_bits_deBruijn64tab, p)) : Deb W := by
  obtain rfl := Option.some.inj ((show Tryd.prog.globalNamed "math/bits.deBruijn64tab" = some 2 by kernel_rfl).symm.trans hg)
  obtain rfl := Option.some.inj ((show (Tryd.prog.globals[2]?).map (·.type) = some 159 by kernel_rfl).symm.trans ht)
  obtain ⟨xs, m, _, ex, hcl, hl, hel⟩ := DataW.trod_array Tryd.underlying159 hd
  have c9 : Tryd.prog.cellsOf 5 = 1 := by kernel_rfl
  have c18 : Tryd.prog.cellsOf 159 = 64 := by kernel_rfl
  rw [c18] at hcl
  rw [c9] at hel
  have e3 : xs.map (·.1) = debT.map fun u => (.lit (.int .u8 u) : DataW Unit) := (DataW.agg.inj (Prod.mk.inj ex).1).symm
  intro i v hi
  have hi64 : i < 64 := (List.getElem?_eq_some_iff.1 hi).1
  have e4 : (xs.map (·.1))[i]? = (debT.map fun u => (.lit (.int .u8 u) : DataW Unit))[i]? := by rw [e3]
  have h6 : debT.length = 64 := rfl
  rw [List.getElem?_map, List.getElem?_map, List.getElem?_eq_getElem (by omega : i < xs.length), List.getElem?_eq_getElem (by omega : i < debT.length)] at e4
  simp only [Option.map_some, Option.some.injEq] at e4
  have hE := hel i hi64
  rw [List.getElem?_eq_getElem (by omega : i < xs.length), Nat.mul_one] at hE
  obtain ⟨k, e1, e2, _⟩ := DataW.trod_int Tryd.underlying5 hE
  have e5 : xs[i].1 = .lit (.int .u8 k) := by rw [e2]
  rw [e4] at e5
  simp only [DataW.lit.injEq, Lit.int.injEq, true_and] at e5
  have e6 : cs.toList[i]? = some (.int .u8 k) := by
    have h0 : ((cs.toList.drop i).take 1)[0]? = some (Value.int .u8 k) := by rw [e1]; rfl
    simpa using h0
  have e7 : (cat u8c debT)[i]? = some (.int .u8 debT[i]) := by
    have := cat_get (f := u8c) (n := 1) (fun _ => rfl) (List.getElem?_eq_getElem (by omega : i < debT.length)) (j := 0) (by decide)
    rw [Nat.mul_one, Nat.add_zero] at this
    exact this
  rw [World.var?_cell hg hv i, show cs[i]? = cs.toList[i]? by simp, e6, ← e5]
  exact e7.symm.trans hi
theorem laid3_parts {W : World} (h : laidMetH Tryd.prog laid3 W) : Ways W ∧ Deb W := by
  rw [MakeChecks.laidMetH_plain _ _ _ (by kernel_rfl)] at h
  obtain ⟨ps, ⟨_, _, _, _, _, _, _, _, _, _, ⟨_, _, _, _, _, _, hg2, ht2, hv2, hd2, ⟨_, _, _, _, _, _, hg3, ht3, hv3, hd3, _, _⟩, _⟩, _⟩, _, _⟩ := h
  exact ⟨ways_entry hg3 ht3 hv3 hd3, deb_entry hg2 ht2 hv2 hd2⟩
theorem rep_of_leaves {P : Program} {w : World} {vs : List Value} (h : Lvs P w [.int .i64, .int .i64, .int .i64, .int .i64, .int .i64, .int .i64, .int .i64, .bool, .int .i64] vs) : ∃ r, vs = rpc r := by
  cases h with | int _ h => cases h with | int _ h => cases h with | int _ h => cases h with | int _ h => cases h with | int _ h => cases h with | int _ h => cases h with | int _ h => cases h with | bool h => cases h with | int _ h => cases h with | nil => exact ⟨⟨_, _, _, _, _, _, _, _, _⟩, rfl⟩
theorem flat_rep : flat Tryd.prog 4 47 = some [.int .i64, .int .i64, .int .i64, .int .i64, .int .i64, .int .i64, .int .i64, .bool, .int .i64] := by kernel_rfl
theorem flat_dis : flat Tryd.prog 4 28 = some [.int .i64, .int .i64, .slice 3, .slice 58, .slice 3, .int .i64, .int .i64, .slice 47] := by kernel_rfl
theorem cells_rep : Tryd.prog.cellsOf 47 = 9 := by kernel_rfl
theorem dis_of {H : Type} {enc : TypeId × Value → H} {w : World} {base : Nat} {v : Value} {d : DataW H} {ps : List MemPlace} (h : Value.okWide Tryd.prog w .any base 28 v) (hd : DataW.Trod enc Tryd.prog w 0 (fun _ => true) true 28 v d ps) : ∃ c, DsOk w v c := by
  obtain ⟨cs, rfl⟩ := agg_of Tryd.underlying28 h
  have hl := lvs_of_Trod hd 4 flat_dis
  rw [show (Value.agg cs).cells.toList = cs.toList from rfl] at hl
  generalize hcs : cs.toList = l at hl
  cases hl with | int _ hl => cases hl with | int _ hl => cases hl with | slice x1 _ _ _ s1 _ e1 hl => cases hl with | slice x2 _ _ _ s2 _ e2 hl => cases hl with | slice x3 _ _ _ s3 _ e3 hl => cases hl with | int _ hl => cases hl with | int _ hl => cases hl with | slice x4 _ _ _ s4 _ e4 hl =>
    cases hl
    obtain ⟨l1, h1, _⟩ := sl_ints s1 e1
    obtain ⟨l2, h2, _⟩ := sl_spans s2 e2
    obtain ⟨l3, h3, _⟩ := sl_ints s3 e3
    obtain ⟨l4, hu, _⟩ := cat_of (f := rpc) (xss := x4) fun xs hxs => rep_of_leaves (e4 xs hxs 4 _ flat_rep)
    rw [cells_rep, hu] at s4
    exact ⟨⟨⟨_, _, l1, l2, l3⟩, _, _, l4⟩, _, _, _, _, by rw [show cs = cs.toList.toArray by simp, hcs], ⟨_, _, _, rfl, h1, h2, h3⟩, s4⟩
end Go.Proofs.YtaloedccoadedaaDoor

