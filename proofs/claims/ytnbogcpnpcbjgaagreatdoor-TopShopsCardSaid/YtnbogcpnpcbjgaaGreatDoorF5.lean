/- Parts of a proof: the symbolic walk and what it shows of single functions. -/
import Derived.Test.YtnbogcpnpcbjgaaGreatDoorF2
import Derived.Test.YtnbogcpnpcbjgaaGreatDoorF3
set_option linter.all false
namespace Go.Proofs.YtnbogcpnpcbjgaaGreatDoor
open Go.RowKit Go.SX
set_option maxRecDepth 10000
set_option maxHeartbeats 0
set_option linter.unusedSimpArgs false
set_option linter.unusedVariables false
theorem cen_bd (W k : Nat) (hW : 1 ≤ W ∧ W ≤ 12) (hk : k < 200) : (0 ≤ cenX W k ∧ cenX W k ≤ 30) ∧ 0 ≤ cenY W k ∧ cenY W k ≤ 400 := by
  have hq : k / W ≤ k := Nat.div_le_self _ _
  have hr : k % W < W := Nat.mod_lt _ (by omega)
  unfold cenX cenY
  generalize k / W = q at *
  generalize k % W = r at *
  omega
theorem wtrn_eq2 {a b c d A B : Int} (hA : 0 ≤ A ∧ A ≤ 1000) (hB : 0 ≤ B ∧ B ≤ 1000) (ha : -A ≤ a ∧ a ≤ A) (hb : -A ≤ b ∧ b ≤ A) (hc : -B ≤ c ∧ c ≤ B) (hd : -B ≤ d ∧ d ≤ B) : wtrn a b c d = trn a b c d ∧ walg a b c d = alg a b c d := by
  have hAB : A * B ≤ 1000000 := Int.le_trans (Int.mul_le_mul_of_nonneg_right hA.2 hB.1) (by omega)
  have h1 := trn_bd hA.1 ha hb hc hd hB.1
  have h2 := trn_bd hA.1 hb ha hd hc hB.1
  have h3 := trn_bd hA.1 ha hb hd hc hB.1
  have h4 := trn_bd hA.1 hb ha hc hd hB.1
  unfold wtrn walg trn alg
  rw [show wr (a * d) = a * d from wrap_id (by omega), show wr (b * c) = b * c from wrap_id (by omega), show wr (a * c) = a * c from wrap_id (by omega), show wr (b * d) = b * d from wrap_id (by omega)]
  exact ⟨wrap_id (by omega), wrap_id (by omega)⟩
theorem beam_bd {r : Rep} (h : beamB r = true) : (-200 ≤ r.a ∧ r.a ≤ 200) ∧ (-200 ≤ r.b ∧ r.b ≤ 200) ∧ (-200 ≤ r.c ∧ r.c ≤ 200) ∧ (-200 ≤ r.d ∧ r.d ≤ 200) := by
  unfold beamB at h
  simp only [Bool.and_eq_true, inB_iff] at h
  exact ⟨h.1.1.1.1.1.1, h.1.1.1.1.1.2, h.1.1.1.1.2, h.1.1.1.2⟩
theorem shp_kind {r : Rep} (h : shpB r = true) : r.kind = 1 ∨ r.kind = 3 ∨ r.kind = 4 ∨ (r.kind = 2 ∧ beamB r = true) := by
  unfold shpB at h
  split at h
  · rename_i h1; exact .inl h1
  · split at h
    · rename_i h1; exact .inr (.inr (.inr ⟨h1, h⟩))
    · split at h
      · rename_i h1; exact .inr (.inl h1)
      · split at h
        · rename_i h1; exact .inr (.inr (.inl h1))
        · cases h
theorem says_fn (w : World) (bs : Nat) (c : Cht) (hs : SayOk w bs c) (hok : c.ok) (r : Rep) (hr : repB c r = true) (k : Nat) (hk : k < c.depth.length) :
    SX.Fn Tryz.prog 102 [.pointer (some ⟨bs, 0, none⟩), rpv r, I k] w (fun _ => False) fun q N => q = .bool (saysB c r k) := by
  obtain ⟨hrt, hrs, hrw⟩ := (repB_iff _ _).1 hr
  obtain ⟨vA, hc0, hc8, hA⟩ := hs
  obtain ⟨pa, aA, cA, rfl, hal, hsA, hAt⟩ := hA.at i1_len (by decide)
  have hAl : (apL c).length = c.depth.length := rowF_len _ _
  rw [hAl] at hsA hal hc8
  have hrA := fun H => hsA.rd0 H
  obtain ⟨eW, _, hW, hH, hlen⟩ := hok.dims
  have h144 : c.depth.length ≤ 144 := by rw [hlen]; exact Nat.le_trans (Nat.mul_le_mul hW.2 hH.2) (by decide)
  obtain ⟨K, hK⟩ : ∃ K : Nat, r.cell = K := ⟨r.cell.toNat, by omega⟩
  have hKn : K < c.depth.length := by omega
  obtain ⟨a3, c3, hpa, hs3⟩ := hAt K _ (ap_get c hKn)
  have hapl : (apRow c K).length = c.depth.length := rowF_len _ _
  have hr3 := hs3.rd0
  rw [hapl] at hpa hr3
  have hdk := ap_get2 c K hk
  have hdm := tdivmod (k := k) hW.1
  have hblt := World.block_lt_of_cell? w _ hc0
  rw [eW] at hc0
  have hcen := fun (j : Nat) (hj : j < 200) (H : List HO) w' (hp : Hp ⟨w, fun _ => False⟩ H w') => centre_fn w' bs c.W j ((World.cell?_of_block (w := w) (hp.ext.block bs hblt id)).trans hc0) hW hj
  have hkd := shp_kind hrs
  have hbb := fun (h : beamB r = true) => beam_bd h
  have hck := cen_bd c.W k hW (by omega)
  have hcK := cen_bd c.W K hW (by omega)
  have e0 : ((c.W : Int) = 0) = False := eq_false (by omega)
  have hq : k / c.W ≤ k := Nat.div_le_self _ _
  have e1 : wr ((k / c.W : Nat) : Int) = ((k / c.W : Nat) : Int) := by
    generalize k / c.W = q at hq ⊢
    exact wrap_id (by omega)
  obtain ⟨x1, kd, cl, a, b, c4, d4, s, x9⟩ := r
  simp only [] at hK hkd hbb
  subst hK
  unfold saysB rpv
  simp only [Int.toNat_natCast]
  rcases hkd with h | h | h | ⟨h, hB⟩
  · have q1 : (kd = 1) = True := eq_true h
    rw [if_pos h]
    refine walk [] [] (detT_ok _ _) Tryz.func102 rfl Tryz.ntmps102 res102 (by kernel_rfl) no_facts ?_
    simp (config := { maxSteps := 4000000 }) only [↓sx0, ↓sx1, ↓sx2, ↓sx3, ↓sx4, ↓sx5, ↓sx6, sx0, sx1, sx2, sx3, sx4, sx5, sx6, tf102, ev3_hold, sxo, sxc, sxp, sxq, sxr, sxs, sxl, sxm, simprocAttr, q1]
    refine ld_olda (b := bs) (o := 8) rfl hc8 id ?_
    simp (config := { maxSteps := 4000000 }) only [↓sx0, ↓sx1, ↓sx2, ↓sx3, ↓sx4, ↓sx5, ↓sx6, sx0, sx1, sx2, sx3, sx4, sx5, sx6, tf102, ev3_hold, sxo, sxc, sxp, sxq, sxr, sxs, sxl, sxm, simprocAttr]
    refine at_1 (hrA _) lpc_len hpa (show lpc _ = [Value.slice a3 c.depth.length c3] from rfl) fun ad1 => ?_
    simp (config := { maxSteps := 4000000 }) only [↓sx0, ↓sx1, ↓sx2, ↓sx3, ↓sx4, ↓sx5, ↓sx6, sx0, sx1, sx2, sx3, sx4, sx5, sx6, tf102, ev3_hold, sxo, sxc, sxp, sxq, sxr, sxs, sxl, sxm, simprocAttr]
    refine at_1 (hr3 _) i1_len hdk rfl fun ad2 => ?_
    simp (config := { maxSteps := 4000000 }) only [↓sx0, ↓sx1, ↓sx2, ↓sx3, ↓sx4, ↓sx5, ↓sx6, sx0, sx1, sx2, sx3, sx4, sx5, sx6, tf102, ev3_hold, sxo, sxc, sxp, sxq, sxr, sxs, sxl, sxm, simprocAttr, detT_eq]
  · have q1 : (kd = 1) = False := eq_false (by omega)
    have q3 : (kd = 3) = True := eq_true h
    rw [if_neg (by omega), if_pos h]
    refine walk [] [] (detT_ok _ _) Tryz.func102 rfl Tryz.ntmps102 res102 (by kernel_rfl) no_facts ?_
    simp (config := { maxSteps := 4000000 }) only [↓sx0, ↓sx1, ↓sx2, ↓sx3, ↓sx4, ↓sx5, ↓sx6, sx0, sx1, sx2, sx3, sx4, sx5, sx6, tf102, ev3_hold, sxo, sxc, sxp, sxq, sxr, sxs, sxl, sxm, simprocAttr, q1, q3]
    refine ld_olda (b := bs) (o := 0) rfl hc0 id ?_
    cases h1 : inB ((k / c.W : Nat) : Int) a b with
    | false =>
      simp (config := { maxSteps := 4000000 }) only [↓sx0, ↓sx1, ↓sx2, ↓sx3, ↓sx4, ↓sx5, ↓sx6, sx0, sx1, sx2, sx3, sx4, sx5, sx6, tf102, ev3_hold, sxo, sxc, sxp, sxq, sxr, sxs, sxl, sxm, simprocAttr, detT_eq, e0, e1, hdm.1, h1]
      all_goals first | rfl | simp
    | true =>
      simp (config := { maxSteps := 4000000 }) only [↓sx0, ↓sx1, ↓sx2, ↓sx3, ↓sx4, ↓sx5, ↓sx6, sx0, sx1, sx2, sx3, sx4, sx5, sx6, tf102, ev3_hold, sxo, sxc, sxp, sxq, sxr, sxs, sxl, sxm, simprocAttr, detT_eq, e0, e1, hdm.1, h1]
      refine ld_olda (b := bs) (o := 0) rfl hc0 id ?_
      simp (config := { maxSteps := 4000000 }) only [↓sx0, ↓sx1, ↓sx2, ↓sx3, ↓sx4, ↓sx5, ↓sx6, sx0, sx1, sx2, sx3, sx4, sx5, sx6, tf102, ev3_hold, sxo, sxc, sxp, sxq, sxr, sxs, sxl, sxm, simprocAttr, detT_eq, e0, hdm.2]
      all_goals first | rfl | simp
  · have q1 : (kd = 1) = False := eq_false (by omega)
    have q3 : (kd = 3) = False := eq_false (by omega)
    have q4 : (kd = 4) = True := eq_true h
    rw [if_neg (by omega), if_neg (by omega), if_pos h]
    refine walk [] [] (detT_ok _ _) Tryz.func102 rfl Tryz.ntmps102 res102 (by kernel_rfl) no_facts ?_
    simp (config := { maxSteps := 4000000 }) only [↓sx0, ↓sx1, ↓sx2, ↓sx3, ↓sx4, ↓sx5, ↓sx6, sx0, sx1, sx2, sx3, sx4, sx5, sx6, tf102, ev3_hold, sxo, sxc, sxp, sxq, sxr, sxs, sxl, sxm, simprocAttr, q1, q3, q4]
    refine ld_olda (b := bs) (o := 8) rfl hc8 id ?_
    simp (config := { maxSteps := 4000000 }) only [↓sx0, ↓sx1, ↓sx2, ↓sx3, ↓sx4, ↓sx5, ↓sx6, sx0, sx1, sx2, sx3, sx4, sx5, sx6, tf102, ev3_hold, sxo, sxc, sxp, sxq, sxr, sxs, sxl, sxm, simprocAttr]
    refine at_1 (hrA _) lpc_len hpa (show lpc _ = [Value.slice a3 c.depth.length c3] from rfl) fun ad1 => ?_
    simp (config := { maxSteps := 4000000 }) only [↓sx0, ↓sx1, ↓sx2, ↓sx3, ↓sx4, ↓sx5, ↓sx6, sx0, sx1, sx2, sx3, sx4, sx5, sx6, tf102, ev3_hold, sxo, sxc, sxp, sxq, sxr, sxs, sxl, sxm, simprocAttr]
    refine at_1 (hr3 _) i1_len hdk rfl fun ad2 => ?_
    simp (config := { maxSteps := 4000000 }) only [↓sx0, ↓sx1, ↓sx2, ↓sx3, ↓sx4, ↓sx5, ↓sx6, sx0, sx1, sx2, sx3, sx4, sx5, sx6, tf102, ev3_hold, sxo, sxc, sxp, sxq, sxr, sxs, sxl, sxm, simprocAttr]
  have q1 : (kd = 1) = False := eq_false (by omega)
  have q3 : (kd = 3) = False := eq_false (by omega)
  have q4 : (kd = 4) = False := eq_false (by omega)
  rw [if_neg (by omega), if_neg (by omega), if_neg (by omega)]
  obtain ⟨ba, bb, bc, bd⟩ := hbb hB
  have f0 := (wtrn_eq ba bb bc bd).1
  have hcenk := hcen k (by omega)
  have hcenK := hcen K (by omega)
  have cx := wrap_id (n := cenX c.W k - cenX c.W K) (by omega)
  have cy := wrap_id (n := cenY c.W k - cenY c.W K) (by omega)
  obtain ⟨X, hX⟩ : ∃ X, cenX c.W k - cenX c.W K = X := ⟨_, rfl⟩
  obtain ⟨Y, hY⟩ : ∃ Y, cenY c.W k - cenY c.W K = Y := ⟨_, rfl⟩
  have hXb : -1000 ≤ X ∧ X ≤ 1000 := by omega
  have hYb : -1000 ≤ Y ∧ Y ≤ 1000 := by omega
  have f1 := wtrn_eq2 (a := a) (b := b) (c := X) (d := Y) (A := 1000) (B := 1000) (by omega) (by omega) (by omega) (by omega) hXb hYb
  have f2 := (wtrn_eq2 (a := X) (b := Y) (c := c4) (d := d4) (A := 1000) (B := 1000) (by omega) (by omega) hXb hYb (by omega) (by omega)).1
  rw [hX] at cx
  rw [hY] at cy
  simp only [hX, hY]
  have dn : ∀ xs, detT 154 xs = none := fun _ => rfl
  refine walk [] [] (detT_ok _ _) Tryz.func102 rfl Tryz.ntmps102 res102 (by kernel_rfl) no_facts ?_
  simp (config := { maxSteps := 4000000 }) only [↓sx0, ↓sx1, ↓sx2, ↓sx3, ↓sx4, ↓sx5, ↓sx6, sx0, sx1, sx2, sx3, sx4, sx5, sx6, tf102, ev3_hold, sxo, sxc, sxp, sxq, sxr, sxs, sxl, sxm, simprocAttr, q1, q3, q4, detT_eq, dn]
  refine CallOb.pureH (fun w' hp => hcenK _ w' hp) ?_
  rintro q N rfl
  refine ⟨?_⟩
  simp (config := { maxSteps := 4000000 }) only [↓sx0, ↓sx1, ↓sx2, ↓sx3, ↓sx4, ↓sx5, ↓sx6, sx0, sx1, sx2, sx3, sx4, sx5, sx6, tf102, ev3_hold, sxo, sxc, sxp, sxq, sxr, sxs, sxl, sxm, simprocAttr, dn]
  refine CallOb.pureH (fun w' hp => hcenk _ w' hp) ?_
  rintro q N2 rfl
  have cx' : wr (cenX c.W k - cenX c.W K) = X := by rw [hX]; exact cx
  have cy' : wr (cenY c.W k - cenY c.W K) = Y := by rw [hY]; exact cy
  by_cases hkK : (k : Int) = (K : Int)
  · have p1 : ((k : Int) = (K : Int)) = True := eq_true hkK
    rw [if_pos hkK]
    refine ⟨?_⟩
    simp (config := { maxSteps := 4000000 }) only [↓sx0, ↓sx1, ↓sx2, ↓sx3, ↓sx4, ↓sx5, ↓sx6, sx0, sx1, sx2, sx3, sx4, sx5, sx6, tf102, ev3_hold, sxo, sxc, sxp, sxq, sxr, sxs, sxl, sxm, simprocAttr, p1]
  have p1 : ((k : Int) = (K : Int)) = False := eq_false hkK
  rw [if_neg hkK]
  by_cases ht : trn a b c4 d4 > 0
  · have p2 : (trn a b c4 d4 > 0) = True := eq_true ht
    rw [if_pos ht]
    by_cases h1 : trn a b X Y ≥ 0
    · have p3 : (trn a b X Y ≥ 0) = True := eq_true h1
      refine ⟨?_⟩
      simp (config := { maxSteps := 4000000 }) only [↓sx0, ↓sx1, ↓sx2, ↓sx3, ↓sx4, ↓sx5, ↓sx6, sx0, sx1, sx2, sx3, sx4, sx5, sx6, tf102, ev3_hold, sxo, sxc, sxp, sxq, sxr, sxs, sxl, sxm, simprocAttr, p1, cx', cy', detT_eq, f0, f1, f2, p2, p3]
      all_goals first | rfl | simp [h1]
    · have p3 : (trn a b X Y ≥ 0) = False := eq_false h1
      refine ⟨?_⟩
      simp (config := { maxSteps := 4000000 }) only [↓sx0, ↓sx1, ↓sx2, ↓sx3, ↓sx4, ↓sx5, ↓sx6, sx0, sx1, sx2, sx3, sx4, sx5, sx6, tf102, ev3_hold, sxo, sxc, sxp, sxq, sxr, sxs, sxl, sxm, simprocAttr, p1, cx', cy', detT_eq, f0, f1, f2, p2, p3]
      all_goals first | rfl | simp [h1]
  · have p2 : (trn a b c4 d4 > 0) = False := eq_false ht
    rw [if_neg ht]
    by_cases h1 : trn a b X Y = 0
    · have p3 : (trn a b X Y = 0) = True := eq_true h1
      refine ⟨?_⟩
      simp (config := { maxSteps := 4000000 }) only [↓sx0, ↓sx1, ↓sx2, ↓sx3, ↓sx4, ↓sx5, ↓sx6, sx0, sx1, sx2, sx3, sx4, sx5, sx6, tf102, ev3_hold, sxo, sxc, sxp, sxq, sxr, sxs, sxl, sxm, simprocAttr, p1, cx', cy', detT_eq, f0, f1, f2, p2, p3]
      all_goals first | rfl | simp [h1]
    · have p3 : (trn a b X Y = 0) = False := eq_false h1
      refine ⟨?_⟩
      simp (config := { maxSteps := 4000000 }) only [↓sx0, ↓sx1, ↓sx2, ↓sx3, ↓sx4, ↓sx5, ↓sx6, sx0, sx1, sx2, sx3, sx4, sx5, sx6, tf102, ev3_hold, sxo, sxc, sxp, sxq, sxr, sxs, sxl, sxm, simprocAttr, p1, cx', cy', detT_eq, f0, f1, f2, p2, p3]
      all_goals first | rfl | simp [h1]
end Go.Proofs.YtnbogcpnpcbjgaaGreatDoor

namespace Go.Proofs.YtnbogcpnpcbjgaaGreatDoor
open Go.RowKit Go.SX
set_option maxRecDepth 10000
set_option maxHeartbeats 0
set_option linter.unusedSimpArgs false
set_option linter.unusedVariables false
def OpenP (v : Value) (d : Dis) (q : Value) (N : List HO) : Prop := (d.E ≠ 0 ∧ q = .tuple #[.pointer none, I d.E]) ∨ (d.E = 0 ∧ ∃ bs, q = .tuple #[.pointer (some ⟨bs, 0, none⟩), I 0] ∧ SeaN N v bs d)
theorem LLN_end {α : Type} {f : α → List Value} {sz : Nat} {T E : TypeId} {ps : List (Lp α)} {L : List (List α)} {v : Value} {X : HO} {D : List HO} (h1 : ps.map Prod.fst = L) (h2 : ∀ p ∈ ps, HO.row (lpv p) E sz (cat f p.1) ∈ D) (H : List HO) (hm : ∀ h ∈ HO.row v T 1 (cat lpc ps) :: D, h ∈ H) : LLN f sz T E H v L := ⟨ps, h1, hm _ List.mem_cons_self, fun p hp => hm _ (List.mem_cons_of_mem _ (h2 p hp))⟩
theorem floats_at (w : World) (v : Value) (c : Cht) (hc : ChOk w v c) (hsm : c.small) (hok : c.ok) {g : Int} (hg : 1 ≤ g ∧ g ≤ 100) {k t : Nat} (hk : k < c.depth.length) (ht : t < c.tide.length) : SX.Fn Tryz.prog 101 [v, I g, I k, I t] w (fun _ => False) fun r N => r = .tuple #[.bool (decide (c.over k t (c.tlo t) ≥ g)), .bool (decide (c.over k t (c.thi t) ≥ g)), I 0] := by
  have h := floats1_fn w v c hc hsm g k t
  have h2 : openE c [(k : Int)] [(t : Int)] [g] = 0 := by
    unfold openE notCell notTick notDraught
    rw [if_pos ((okB_iff c).2 hok), if_neg]
    simp only [List.any_cons, List.any_nil, Bool.or_false, Bool.or_eq_true, Bool.not_eq_true', not_or, Bool.not_eq_false, inB_iff]
    omega
  unfold floatsV at h
  rw [if_pos h2] at h
  exact h
theorem DsOk.hp {w0 : World} {v : Value} {d : Dis} {H : List HO} {w : World} (h : DsOk w0 v d) (hp : Hp ⟨w0, fun _ => False⟩ H w) : DsOk w v d := by
  obtain ⟨sD, sT, sS, sR, h1, h2, h3⟩ := h
  exact ⟨sD, sT, sS, sR, h1, h2.hp hp, h3.hp (fun _ _ => id) hp⟩
theorem open3_fn (w : World) (hw : Ways w) (v : Value) (d : Dis) (hd : DsOk w v d) (hsm : d.small) : SX.Fn Tryz.prog 65 [v] w (fun _ => False) (OpenP v d) := by
  have hck := fun (H : List HO) w' (hp : Hp ⟨w, fun _ => False⟩ H w') => check3_fn w' (hw.hp hp) v d (hd.hp hp) hsm
  obtain ⟨sD, sT, sS, sR, rfl, hc, hsR⟩ := hd
  have hc0 := hc
  obtain ⟨_, _, _, hh, hsD, hsT, hsS⟩ := hc
  cases hh
  obtain ⟨aD, nD, cD, rfl⟩ := hsD.shape
  obtain ⟨aT, nT, cT, rfl⟩ := hsT.shape
  obtain ⟨aR, nR, cR, rfl⟩ := hsR.shape
  have hnD := hsD.le i1_len (by omega)
  have hnT := hsT.le spc_len (by omega)
  have hnR := hsR.le rpc_len (by omega)
  subst hnD hnT hnR
  have hrR := fun H => hsR.rd0 H
  unfold OpenP
  obtain ⟨E, hEe⟩ : ∃ E, d.E = E := ⟨_, rfl⟩
  simp only [hEe] at hck ⊢
  have dn : ∀ (g : Nat) (xs : List Value), det0 g xs = none := fun _ _ => rfl
  refine walk [24] [] (det0_ok _ _) Tryz.func65 rfl Tryz.ntmps65 res65 (by kernel_rfl) no_facts ?_
  simp (config := { maxSteps := 4000000 }) only [↓sx0, ↓sx1, ↓sx2, ↓sx3, ↓sx4, ↓sx5, ↓sx6, sx0, sx1, sx2, sx3, sx4, sx5, sx6, tf65, ev3_hold, sxo, sxc, sxp, sxq, sxr, sxs, sxl, sxm, simprocAttr, dn]
  refine CallOb.pureH (fun w' hp => hck _ w' hp) ?_
  rintro q N0 rfl
  rw [List.append_nil]
  by_cases hE : E = 0
  case neg =>
    have p1 : (E = 0) = False := eq_false hE
    refine ⟨?_⟩
    simp (config := { maxSteps := 4000000 }) only [↓sx0, ↓sx1, ↓sx2, ↓sx3, ↓sx4, ↓sx5, ↓sx6, sx0, sx1, sx2, sx3, sx4, sx5, sx6, tf65, ev3_hold, sxo, sxc, sxp, sxq, sxr, sxs, sxl, sxm, simprocAttr, p1]
    exact .inl trivial
  subst hE
  obtain ⟨hok, hdr, hpc, hm12, hrep⟩ := Dis.E_zero hEe
  have hsml := hsm.1
  have hap := fun (i k : Nat) (hi : i < d.c.depth.length) (hk : k < d.c.depth.length) (H : List HO) w' (hp : Hp ⟨w, fun _ => False⟩ H w') => apart_at w' (hw.hp hp) _ d.c (hc0.hp hp) hsml hok i k hi hk
  have hfl := fun (k t : Nat) (hk : k < d.c.depth.length) (ht : t < d.c.tide.length) (H : List HO) w' (hp : Hp ⟨w, fun _ => False⟩ H w') => floats_at w' _ d.c (hc0.hp hp) hsml hok hdr hk ht
  have hsay := fun (w' : World) (bs : Nat) (h : SayOk w' bs d.c) (r : Rep) (hr : r ∈ d.rs) (k : Nat) (hk : k < d.c.depth.length) => says_fn w' bs d.c h hok r (hrep r hr) k hk
  have hmay : ∀ t x, d.may t x = decide (d.c.over x t (d.c.thi t) ≥ d.dr) := fun _ _ => rfl
  have hAr : ∀ i, apRow d.c i = rowF d.c.depth.length fun x => (dst d.c.W d.c.H i x : Int) := fun _ => rfl
  have hFr : ∀ t, d.flRow t = rowF d.c.depth.length (d.may t) := fun _ => rfl
  have hXr : ∀ r, fiRow d.c r = rowF d.c.depth.length (saysB d.c r) := fun _ => rfl
  have hAg := fun i (h : i < d.c.depth.length) => ap_get d.c h
  have hFg : ∀ i, i < d.c.tide.length → d.flL[i]? = some (d.flRow i) := fun i h => rowF_get _ h
  have hrget : ∀ i, i < d.rs.length → ∃ r, d.rs[i]? = some r := fun i h => ⟨_, List.getElem?_eq_getElem h⟩
  have hXg : ∀ i r, d.rs[i]? = some r → d.fiL[i]? = some (fiRow d.c r) := fun i r h => by unfold Dis.fiL; rw [List.getElem?_map, h]; rfl
  have hAl : (apL d.c).length = d.c.depth.length := rowF_len _ _
  have hFl : d.flL.length = d.c.tide.length := rowF_len _ _
  have hXl : d.fiL.length = d.rs.length := List.length_map _
  have hdl : d.c.depth.length ≤ 200 := hsm.1.1
  have htl : d.c.tide.length ≤ 100 := hsm.1.2.1
  obtain ⟨n, hn⟩ : ∃ n, d.c.depth.length = n := ⟨_, rfl⟩
  obtain ⟨T, hTe⟩ : ∃ T, d.c.tide.length = T := ⟨_, rfl⟩
  obtain ⟨m, hme⟩ : ∃ m, d.rs.length = m := ⟨_, rfl⟩
  simp only [hn, hTe, hme] at *
  refine ⟨?_⟩
  simp (config := { maxSteps := 4000000 }) only [↓sx0, ↓sx1, ↓sx2, ↓sx3, ↓sx4, ↓sx5, ↓sx6, sx0, sx1, sx2, sx3, sx4, sx5, sx6, tf65, ev3_hold, sxo, sxc, sxp, sxq, sxr, sxs, sxl, sxm, simprocAttr]
  intro bs

  refine loop_constH (.row (.slice none 0 0) 22 1 (cat lpc ([] : List (Lp Int))) :: HO.cells bs 177 (seaC d (.slice aD n cD) (.slice aT T cT) sS (.slice aR m cR) (.slice none 0 0) (.slice none 0 0) (.slice none 0 0)) :: N0) ((HImp.nilRow _ _ _ _)) [(7, 9), (30, 62)] (fun q : Nat × Option Addr × Nat => [(30, I q.1)])
    (fun q H1 => q.1 ≤ n ∧ ∃ ps DF, ps.map Prod.fst = (apL d.c).take q.1 ∧ (q.2.1 = none → ps = []) ∧ H1 = .row (.slice q.2.1 q.1 q.2.2) 22 1 (cat lpc (ps : List (Lp Int))) :: HO.cells bs 177 (seaC d (.slice aD n cD) (.slice aT T cT) sS (.slice aR m cR) (.slice q.2.1 q.1 q.2.2) (.slice none 0 0) (.slice none 0 0)) :: DF ∧ (∀ h ∈ N0, h ∈ DF) ∧ ∀ p ∈ ps, HO.row (lpv p) 3 1 (cat i1 p.1) ∈ DF) (fun q => n - q.1) (0, none, 0) ?_ ⟨Nat.zero_le _, [], N0, rfl, fun _ => rfl, rfl, fun h hh => hh, fun p hp => by cases hp⟩ ?_
  · simp (config := { maxSteps := 4000000 }) only [↓sx0, ↓sx1, ↓sx2, ↓sx3, ↓sx4, ↓sx5, ↓sx6, sx0, sx1, sx2, sx3, sx4, sx5, sx6, tf65, ev3_hold, sxo, sxc, sxp, sxq, sxr, sxs, sxl, sxm, simprocAttr]
    try simp
  rintro ⟨i, aoA, coA⟩ H1 g1 hinv
  simp only [] at hinv
  obtain ⟨hi, psA, DFA, hpsA, hnil, rfl, hDA, hDFA⟩ := hinv
  by_cases hin : i = n
  case neg =>
    have e7 : ((i : Int) < (n : Int)) = True := eq_true (by omega)
    have e8 : wr (i + 1) = ((i + 1 : Nat) : Int) := (wrap_id (by omega)).trans (by omega)
    have hpl : psA.length = i := by
      have := congrArg List.length hpsA
      rw [List.length_map, List.length_take] at this
      omega
    have hnx : ∀ (p : Lp Int), (apL d.c)[i]? = some p.1 → (psA ++ [p]).map Prod.fst = (apL d.c).take (i + 1) := fun p h => by
      rw [List.map_append, hpsA, List.take_add_one, h]
      rfl
    obtain ⟨H9, hH9⟩ : ∃ H9, HO.row (.slice aoA i coA) 22 1 (cat lpc (psA : List (Lp Int))) :: HO.cells bs 177 (seaC d (.slice aD n cD) (.slice aT T cT) sS (.slice aR m cR) (.slice aoA i coA) (.slice none 0 0) (.slice none 0 0)) :: DFA = H9 := ⟨_, rfl⟩
    rw [hH9]
    refine ⟨?_⟩
    simp (config := { maxSteps := 4000000 }) only [↓sx0, ↓sx1, ↓sx2, ↓sx3, ↓sx4, ↓sx5, ↓sx6, sx0, sx1, sx2, sx3, sx4, sx5, sx6, tf65, ev3_hold, sxo, sxc, sxp, sxq, sxr, sxs, sxl, sxm, simprocAttr, e7]
    refine ⟨by omega, by omega, by omega, fun b2 => ?_⟩
    refine loop_constH (HO.row (.slice (some ⟨b2, 0, none⟩) n n) 3 1 (cat i1 (rowF n fun x => if x < 0 then ((dst d.c.W d.c.H i x : Nat) : Int) else 0)) :: H9) (by rw [show cat i1 (rowF n fun x => if x < 0 then ((dst d.c.W d.c.H i x : Nat) : Int) else 0) = zerosL n [Value.int IntKind.i64 0] by rw [show (rowF n fun x => if x < 0 then ((dst d.c.W d.c.H i x : Nat) : Int) else 0) = List.replicate n 0 by rw [rowF_rep]; rfl]; exact (zeros_cat i1 0 n).symm]; exact HImp.refl _ _) [(9, 9), (37, 51)] (fun k : Nat => [(37, I k)])
      (fun k H2 => k ≤ n ∧ H2 = HO.row (.slice (some ⟨b2, 0, none⟩) n n) 3 1 (cat i1 (rowF n fun x => if x < k then ((dst d.c.W d.c.H i x : Nat) : Int) else 0)) :: H9) (fun k => n - k) 0 ?_ ⟨Nat.zero_le _, rfl⟩ ?_
    · simp (config := { maxSteps := 4000000 }) only [↓sx0, ↓sx1, ↓sx2, ↓sx3, ↓sx4, ↓sx5, ↓sx6, sx0, sx1, sx2, sx3, sx4, sx5, sx6, tf65, ev3_hold, sxo, sxc, sxp, sxq, sxr, sxs, sxl, sxm, simprocAttr]
      try simp
    rintro k H2 g2 ⟨hk, rfl⟩
    by_cases hkn : k = n
    · have f7 : ((k : Int) < (n : Int)) = False := eq_false (by omega)
      rw [rowF_congr (n := n) (f := fun x => if x < k then ((dst d.c.W d.c.H i x : Nat) : Int) else 0) (g := fun x => ((dst d.c.W d.c.H i x : Nat) : Int)) (fun x hx => if_pos (by omega)), ← hAr, ← hH9]
      refine ⟨?_⟩
      simp (config := { maxSteps := 4000000 }) only [↓sx0, ↓sx1, ↓sx2, ↓sx3, ↓sx4, ↓sx5, ↓sx6, sx0, sx1, sx2, sx3, sx4, sx5, sx6, tf65, ev3_hold, sxo, sxc, sxp, sxq, sxr, sxs, sxl, sxm, simprocAttr, f7]
      refine ld_cella (T := 177) (cs := (seaC d (.slice aD n cD) (.slice aT T cT) sS (.slice aR m cR) (.slice aoA i coA) (.slice none 0 0) (.slice none 0 0))) (by simp) rfl ?_
      simp (config := { maxSteps := 4000000 }) only [↓sx0, ↓sx1, ↓sx2, ↓sx3, ↓sx4, ↓sx5, ↓sx6, sx0, sx1, sx2, sx3, sx4, sx5, sx6, tf65, ev3_hold, sxo, sxc, sxp, sxq, sxr, sxs, sxl, sxm, simprocAttr]
      intro b3
      refine app_one (f := lpc) (l := psA) ((apRow d.c i, some ⟨b2, 0, none⟩, n, n) : Lp Int) (HImp.swap _ _ _ _) lpc_len lpc_one (by omega) fun a3 c3 => ?_
      rw [hpl]
      simp (config := { maxSteps := 4000000 }) only [↓sx0, ↓sx1, ↓sx2, ↓sx3, ↓sx4, ↓sx5, ↓sx6, sx0, sx1, sx2, sx3, sx4, sx5, sx6, tf65, ev3_hold, sxo, sxc, sxp, sxq, sxr, sxs, sxl, sxm, simprocAttr]
      refine wr_cella (A := [_, _]) (cs := (seaC d (.slice aD n cD) (.slice aT T cT) sS (.slice aR m cR) (.slice aoA i coA) (.slice none 0 0) (.slice none 0 0))) rfl (by simp [seaC]) ?_
      simp (config := { maxSteps := 4000000 }) only [↓sx0, ↓sx1, ↓sx2, ↓sx3, ↓sx4, ↓sx5, ↓sx6, sx0, sx1, sx2, sx3, sx4, sx5, sx6, tf65, ev3_hold, sxo, sxc, sxp, sxq, sxr, sxs, sxl, sxm, simprocAttr, e8]
      exact ⟨(i + 1, some a3, c3), _, rfl, HImp.perm (List.Perm.cons _ (List.Perm.swap _ _ _)), ⟨by simp only []; omega, _, _ :: DFA, hnx _ (hAg i (by omega)), fun h => (by cases h), rfl, fun h hh => List.mem_cons_of_mem _ (hDA h hh), fun p hp => by
        rcases List.mem_append.1 hp with h | h
        · exact List.mem_cons_of_mem _ (hDFA p h)
        · rw [List.mem_singleton] at h
          subst h
          exact List.mem_cons_self⟩, by first | omega | (simp only []; omega)⟩
    have f7 : ((k : Int) < (n : Int)) = True := eq_true (by omega)
    have f8 : wr (k + 1) = ((k + 1 : Nat) : Int) := (wrap_id (by omega)).trans (by omega)
    refine ⟨?_⟩
    simp (config := { maxSteps := 4000000 }) only [↓sx0, ↓sx1, ↓sx2, ↓sx3, ↓sx4, ↓sx5, ↓sx6, sx0, sx1, sx2, sx3, sx4, sx5, sx6, tf65, ev3_hold, sxo, sxc, sxp, sxq, sxr, sxs, sxl, sxm, simprocAttr, f7, dn]
    refine CallOb.pureH (fun w' hp => hap i k (by omega) (by omega) _ w' hp) ?_
    rintro q N rfl
    refine ⟨?_⟩
    simp (config := { maxSteps := 4000000 }) only [↓sx0, ↓sx1, ↓sx2, ↓sx3, ↓sx4, ↓sx5, ↓sx6, sx0, sx1, sx2, sx3, sx4, sx5, sx6, tf65, ev3_hold, sxo, sxc, sxp, sxq, sxr, sxs, sxl, sxm, simprocAttr]
    refine ⟨by omega, by omega, _, rfl, ?_⟩
    refine wr_at (A := N) (B := H9) (ad := ⟨b2, 0, none⟩) (len := n) (cap := n) (e := 3) (f := i1) (l := rowF n fun x => if x < k then ((dst d.c.W d.c.H i x : Nat) : Int) else 0) (u := ((dst d.c.W d.c.H i k : Nat) : Int)) rfl i1_len (by rw [rowF_len]) (by rw [rowF_len]; omega) ?_
    rw [setStep (fun x => ((dst d.c.W d.c.H i x : Nat) : Int)) (fun _ => 0) rfl]
    simp (config := { maxSteps := 4000000 }) only [↓sx0, ↓sx1, ↓sx2, ↓sx3, ↓sx4, ↓sx5, ↓sx6, sx0, sx1, sx2, sx3, sx4, sx5, sx6, tf65, ev3_hold, sxo, sxc, sxp, sxq, sxr, sxs, sxl, sxm, simprocAttr, f8]
    exact ⟨k + 1, _, rfl, HImp.app _ _ _, ⟨by omega, rfl⟩, by omega⟩
  have hin := hin.symm
  subst hin
  have e7 : ((n : Int) < (n : Int)) = False := eq_false (by omega)
  rw [List.take_of_length_le (by omega)] at hpsA
  have hLLA := LLN_end (T := 22) (v := .slice aoA n coA) (X := HO.row (.slice none 0 0) 22 1 []) hpsA hDFA
  obtain ⟨DA, hDeA⟩ : ∃ D, HO.row (.slice aoA n coA) 22 1 (cat lpc (psA : List (Lp Int))) :: DFA = D := ⟨_, rfl⟩
  refine ⟨?_⟩
  simp (config := { maxSteps := 4000000 }) only [↓sx0, ↓sx1, ↓sx2, ↓sx3, ↓sx4, ↓sx5, ↓sx6, sx0, sx1, sx2, sx3, sx4, sx5, sx6, tf65, ev3_hold, sxo, sxc, sxp, sxq, sxr, sxs, sxl, sxm, simprocAttr, e7]

  refine loop_constH (.row (.slice none 0 0) 178 1 (cat lpc ([] : List (Lp Bool))) :: HO.cells bs 177 (seaC d (.slice aD n cD) (.slice aT T cT) sS (.slice aR m cR) (.slice aoA n coA) (.slice none 0 0) (.slice none 0 0)) :: DA) (by rw [← hDeA]; exact (HImp.nilRow _ _ _ _).trans (HImp.perm (List.Perm.cons _ (List.Perm.swap _ _ _)))) [(10, 12), (67, 102)] (fun q : Nat × Option Addr × Nat => [(67, I q.1)])
    (fun q H1 => q.1 ≤ T ∧ ∃ ps DF, ps.map Prod.fst = (d.flL).take q.1 ∧ (q.2.1 = none → ps = []) ∧ H1 = .row (.slice q.2.1 q.1 q.2.2) 178 1 (cat lpc (ps : List (Lp Bool))) :: HO.cells bs 177 (seaC d (.slice aD n cD) (.slice aT T cT) sS (.slice aR m cR) (.slice aoA n coA) (.slice q.2.1 q.1 q.2.2) (.slice none 0 0)) :: DF ∧ (∀ h ∈ DA, h ∈ DF) ∧ ∀ p ∈ ps, HO.row (lpv p) 4 1 (cat b1 p.1) ∈ DF) (fun q => T - q.1) (0, none, 0) ?_ ⟨Nat.zero_le _, [], DA, rfl, fun _ => rfl, rfl, fun h hh => hh, fun p hp => by cases hp⟩ ?_
  · simp (config := { maxSteps := 4000000 }) only [↓sx0, ↓sx1, ↓sx2, ↓sx3, ↓sx4, ↓sx5, ↓sx6, sx0, sx1, sx2, sx3, sx4, sx5, sx6, tf65, ev3_hold, sxo, sxc, sxp, sxq, sxr, sxs, sxl, sxm, simprocAttr]
    try simp
  rintro ⟨i, aoF, coF⟩ H1 g1 hinv
  simp only [] at hinv
  obtain ⟨hi, psF, DFF, hpsF, hnil, rfl, hDF, hDFF⟩ := hinv
  by_cases hin : i = T
  case neg =>
    have e7 : ((i : Int) < (T : Int)) = True := eq_true (by omega)
    have e8 : wr (i + 1) = ((i + 1 : Nat) : Int) := (wrap_id (by omega)).trans (by omega)
    have hpl : psF.length = i := by
      have := congrArg List.length hpsF
      rw [List.length_map, List.length_take] at this
      omega
    have hnx : ∀ (p : Lp Bool), (d.flL)[i]? = some p.1 → (psF ++ [p]).map Prod.fst = (d.flL).take (i + 1) := fun p h => by
      rw [List.map_append, hpsF, List.take_add_one, h]
      rfl
    obtain ⟨H9, hH9⟩ : ∃ H9, HO.row (.slice aoF i coF) 178 1 (cat lpc (psF : List (Lp Bool))) :: HO.cells bs 177 (seaC d (.slice aD n cD) (.slice aT T cT) sS (.slice aR m cR) (.slice aoA n coA) (.slice aoF i coF) (.slice none 0 0)) :: DFF = H9 := ⟨_, rfl⟩
    rw [hH9]
    refine ⟨?_⟩
    simp (config := { maxSteps := 4000000 }) only [↓sx0, ↓sx1, ↓sx2, ↓sx3, ↓sx4, ↓sx5, ↓sx6, sx0, sx1, sx2, sx3, sx4, sx5, sx6, tf65, ev3_hold, sxo, sxc, sxp, sxq, sxr, sxs, sxl, sxm, simprocAttr, e7]
    refine ⟨by omega, by omega, by omega, fun b2 => ?_⟩
    refine loop_constH (HO.row (.slice (some ⟨b2, 0, none⟩) n n) 4 1 (cat b1 (rowF n fun x => if x < 0 then d.may i x else false)) :: H9) (by rw [show cat b1 (rowF n fun x => if x < 0 then d.may i x else false) = zerosL n [Value.bool false] by rw [show (rowF n fun x => if x < 0 then d.may i x else false) = List.replicate n false by rw [rowF_rep]; rfl]; exact (zeros_cat b1 false n).symm]; exact HImp.refl _ _) [(12, 12), (74, 91)] (fun k : Nat => [(74, I k)])
      (fun k H2 => k ≤ n ∧ H2 = HO.row (.slice (some ⟨b2, 0, none⟩) n n) 4 1 (cat b1 (rowF n fun x => if x < k then d.may i x else false)) :: H9) (fun k => n - k) 0 ?_ ⟨Nat.zero_le _, rfl⟩ ?_
    · simp (config := { maxSteps := 4000000 }) only [↓sx0, ↓sx1, ↓sx2, ↓sx3, ↓sx4, ↓sx5, ↓sx6, sx0, sx1, sx2, sx3, sx4, sx5, sx6, tf65, ev3_hold, sxo, sxc, sxp, sxq, sxr, sxs, sxl, sxm, simprocAttr]
      try simp
    rintro k H2 g2 ⟨hk, rfl⟩
    by_cases hkn : k = n
    · have f7 : ((k : Int) < (n : Int)) = False := eq_false (by omega)
      rw [rowF_congr (n := n) (f := fun x => if x < k then d.may i x else false) (g := fun x => d.may i x) (fun x hx => if_pos (by omega)), ← hFr, ← hH9]
      refine ⟨?_⟩
      simp (config := { maxSteps := 4000000 }) only [↓sx0, ↓sx1, ↓sx2, ↓sx3, ↓sx4, ↓sx5, ↓sx6, sx0, sx1, sx2, sx3, sx4, sx5, sx6, tf65, ev3_hold, sxo, sxc, sxp, sxq, sxr, sxs, sxl, sxm, simprocAttr, f7]
      refine ld_cella (T := 177) (cs := (seaC d (.slice aD n cD) (.slice aT T cT) sS (.slice aR m cR) (.slice aoA n coA) (.slice aoF i coF) (.slice none 0 0))) (by simp) rfl ?_
      simp (config := { maxSteps := 4000000 }) only [↓sx0, ↓sx1, ↓sx2, ↓sx3, ↓sx4, ↓sx5, ↓sx6, sx0, sx1, sx2, sx3, sx4, sx5, sx6, tf65, ev3_hold, sxo, sxc, sxp, sxq, sxr, sxs, sxl, sxm, simprocAttr]
      intro b3
      refine app_one (f := lpc) (l := psF) ((d.flRow i, some ⟨b2, 0, none⟩, n, n) : Lp Bool) (HImp.swap _ _ _ _) lpc_len lpc_one (by omega) fun a3 c3 => ?_
      rw [hpl]
      simp (config := { maxSteps := 4000000 }) only [↓sx0, ↓sx1, ↓sx2, ↓sx3, ↓sx4, ↓sx5, ↓sx6, sx0, sx1, sx2, sx3, sx4, sx5, sx6, tf65, ev3_hold, sxo, sxc, sxp, sxq, sxr, sxs, sxl, sxm, simprocAttr]
      refine wr_cella (A := [_, _]) (cs := (seaC d (.slice aD n cD) (.slice aT T cT) sS (.slice aR m cR) (.slice aoA n coA) (.slice aoF i coF) (.slice none 0 0))) rfl (by simp [seaC]) ?_
      simp (config := { maxSteps := 4000000 }) only [↓sx0, ↓sx1, ↓sx2, ↓sx3, ↓sx4, ↓sx5, ↓sx6, sx0, sx1, sx2, sx3, sx4, sx5, sx6, tf65, ev3_hold, sxo, sxc, sxp, sxq, sxr, sxs, sxl, sxm, simprocAttr, e8]
      exact ⟨(i + 1, some a3, c3), _, rfl, HImp.perm (List.Perm.cons _ (List.Perm.swap _ _ _)), ⟨by simp only []; omega, _, _ :: DFF, hnx _ (hFg i (by omega)), fun h => (by cases h), rfl, fun h hh => List.mem_cons_of_mem _ (hDF h hh), fun p hp => by
        rcases List.mem_append.1 hp with h | h
        · exact List.mem_cons_of_mem _ (hDFF p h)
        · rw [List.mem_singleton] at h
          subst h
          exact List.mem_cons_self⟩, by first | omega | (simp only []; omega)⟩
    have f7 : ((k : Int) < (n : Int)) = True := eq_true (by omega)
    have f8 : wr (k + 1) = ((k + 1 : Nat) : Int) := (wrap_id (by omega)).trans (by omega)
    refine ⟨?_⟩
    simp (config := { maxSteps := 4000000 }) only [↓sx0, ↓sx1, ↓sx2, ↓sx3, ↓sx4, ↓sx5, ↓sx6, sx0, sx1, sx2, sx3, sx4, sx5, sx6, tf65, ev3_hold, sxo, sxc, sxp, sxq, sxr, sxs, sxl, sxm, simprocAttr, f7, dn]
    refine CallOb.pureH (fun w' hp => hfl k i (by omega) (by omega) _ w' hp) ?_
    rintro q N rfl
    rw [← hmay]
    refine ⟨?_⟩
    simp (config := { maxSteps := 4000000 }) only [↓sx0, ↓sx1, ↓sx2, ↓sx3, ↓sx4, ↓sx5, ↓sx6, sx0, sx1, sx2, sx3, sx4, sx5, sx6, tf65, ev3_hold, sxo, sxc, sxp, sxq, sxr, sxs, sxl, sxm, simprocAttr]
    refine ⟨by omega, by omega, _, rfl, ?_⟩
    refine wr_at (A := N) (B := H9) (ad := ⟨b2, 0, none⟩) (len := n) (cap := n) (e := 4) (f := b1) (l := rowF n fun x => if x < k then d.may i x else false) (u := d.may i k) rfl b1_len (by rw [rowF_len]) (by rw [rowF_len]; omega) ?_
    rw [setStep (fun x => d.may i x) (fun _ => false) rfl]
    simp (config := { maxSteps := 4000000 }) only [↓sx0, ↓sx1, ↓sx2, ↓sx3, ↓sx4, ↓sx5, ↓sx6, sx0, sx1, sx2, sx3, sx4, sx5, sx6, tf65, ev3_hold, sxo, sxc, sxp, sxq, sxr, sxs, sxl, sxm, simprocAttr, f8]
    exact ⟨k + 1, _, rfl, HImp.app _ _ _, ⟨by omega, rfl⟩, by omega⟩
  have hin := hin.symm
  subst hin
  have e7 : ((T : Int) < (T : Int)) = False := eq_false (by omega)
  rw [List.take_of_length_le (by omega)] at hpsF
  have hLLF := LLN_end (T := 178) (v := .slice aoF T coF) (X := HO.row (.slice none 0 0) 178 1 []) hpsF hDFF
  obtain ⟨DFF, hDeF⟩ : ∃ D, HO.row (.slice aoF T coF) 178 1 (cat lpc (psF : List (Lp Bool))) :: DFF = D := ⟨_, rfl⟩
  refine ⟨?_⟩
  simp (config := { maxSteps := 4000000 }) only [↓sx0, ↓sx1, ↓sx2, ↓sx3, ↓sx4, ↓sx5, ↓sx6, sx0, sx1, sx2, sx3, sx4, sx5, sx6, tf65, ev3_hold, sxo, sxc, sxp, sxq, sxr, sxs, sxl, sxm, simprocAttr, e7]

  refine loop_constH (.row (.slice none 0 0) 178 1 (cat lpc ([] : List (Lp Bool))) :: HO.cells bs 177 (seaC d (.slice aD n cD) (.slice aT T cT) sS (.slice aR m cR) (.slice aoA n coA) (.slice aoF T coF) (.slice none 0 0)) :: DFF) (by rw [← hDeF]; exact (HImp.nilRow _ _ _ _).trans (HImp.perm (List.Perm.cons _ (List.Perm.swap _ _ _)))) [(14, 16), (106, 135)] (fun q : Nat × Option Addr × Nat => [(106, I q.1)])
    (fun q H1 => q.1 ≤ m ∧ ∃ ps DF, ps.map Prod.fst = (d.fiL).take q.1 ∧ (q.2.1 = none → ps = []) ∧ H1 = .row (.slice q.2.1 q.1 q.2.2) 178 1 (cat lpc (ps : List (Lp Bool))) :: HO.cells bs 177 (seaC d (.slice aD n cD) (.slice aT T cT) sS (.slice aR m cR) (.slice aoA n coA) (.slice aoF T coF) (.slice q.2.1 q.1 q.2.2)) :: DF ∧ (∀ h ∈ DFF, h ∈ DF) ∧ ∀ p ∈ ps, HO.row (lpv p) 4 1 (cat b1 p.1) ∈ DF) (fun q => m - q.1) (0, none, 0) ?_ ⟨Nat.zero_le _, [], DFF, rfl, fun _ => rfl, rfl, fun h hh => hh, fun p hp => by cases hp⟩ ?_
  · simp (config := { maxSteps := 4000000 }) only [↓sx0, ↓sx1, ↓sx2, ↓sx3, ↓sx4, ↓sx5, ↓sx6, sx0, sx1, sx2, sx3, sx4, sx5, sx6, tf65, ev3_hold, sxo, sxc, sxp, sxq, sxr, sxs, sxl, sxm, simprocAttr]
    try simp
  rintro ⟨i, aoX, coX⟩ H1 g1 hinv
  simp only [] at hinv
  obtain ⟨hi, psX, DFX, hpsX, hnil, rfl, hDX, hDFX⟩ := hinv
  by_cases hin : i = m
  case neg =>
    have e7 : ((i : Int) < (m : Int)) = True := eq_true (by omega)
    have e8 : wr (i + 1) = ((i + 1 : Nat) : Int) := (wrap_id (by omega)).trans (by omega)
    have hpl : psX.length = i := by
      have := congrArg List.length hpsX
      rw [List.length_map, List.length_take] at this
      omega
    obtain ⟨r, hr⟩ := hrget i (by omega)
    have hXgi := hXg i r hr
    obtain ⟨x1, x2, x3, x4, x5, x6, x7, s, x9⟩ := r
    have hnx : ∀ (p : Lp Bool), (d.fiL)[i]? = some p.1 → (psX ++ [p]).map Prod.fst = (d.fiL).take (i + 1) := fun p h => by
      rw [List.map_append, hpsX, List.take_add_one, h]
      rfl
    obtain ⟨H9, hH9⟩ : ∃ H9, HO.row (.slice aoX i coX) 178 1 (cat lpc (psX : List (Lp Bool))) :: HO.cells bs 177 (seaC d (.slice aD n cD) (.slice aT T cT) sS (.slice aR m cR) (.slice aoA n coA) (.slice aoF T coF) (.slice aoX i coX)) :: DFX = H9 := ⟨_, rfl⟩
    rw [hH9]
    refine ⟨?_⟩
    simp (config := { maxSteps := 4000000 }) only [↓sx0, ↓sx1, ↓sx2, ↓sx3, ↓sx4, ↓sx5, ↓sx6, sx0, sx1, sx2, sx3, sx4, sx5, sx6, tf65, ev3_hold, sxo, sxc, sxp, sxq, sxr, sxs, sxl, sxm, simprocAttr, e7]
    refine amid (at_n (hrR _) rpc_len (by omega) hr fun ad => ?_)
    unfold rpc
    simp (config := { maxSteps := 4000000 }) only [↓sx0, ↓sx1, ↓sx2, ↓sx3, ↓sx4, ↓sx5, ↓sx6, sx0, sx1, sx2, sx3, sx4, sx5, sx6, tf65, ev3_hold, sxo, sxc, sxp, sxq, sxr, sxs, sxl, sxm, simprocAttr]
    refine ⟨by omega, by omega, by omega, fun b2 => ?_⟩
    refine loop_constH (HO.row (.slice (some ⟨b2, 0, none⟩) n n) 4 1 (cat b1 (rowF n fun x => if x < 0 then saysB d.c ⟨x1, x2, x3, x4, x5, x6, x7, s, x9⟩ x else false)) :: H9) (by rw [show cat b1 (rowF n fun x => if x < 0 then saysB d.c ⟨x1, x2, x3, x4, x5, x6, x7, s, x9⟩ x else false) = zerosL n [Value.bool false] by rw [show (rowF n fun x => if x < 0 then saysB d.c ⟨x1, x2, x3, x4, x5, x6, x7, s, x9⟩ x else false) = List.replicate n false by rw [rowF_rep]; rfl]; exact (zeros_cat b1 false n).symm]; exact HImp.refl _ _) [(16, 16), (114, 124)] (fun k : Nat => [(114, I k)])
      (fun k H2 => k ≤ n ∧ H2 = HO.row (.slice (some ⟨b2, 0, none⟩) n n) 4 1 (cat b1 (rowF n fun x => if x < k then saysB d.c ⟨x1, x2, x3, x4, x5, x6, x7, s, x9⟩ x else false)) :: H9) (fun k => n - k) 0 ?_ ⟨Nat.zero_le _, rfl⟩ ?_
    · simp (config := { maxSteps := 4000000 }) only [↓sx0, ↓sx1, ↓sx2, ↓sx3, ↓sx4, ↓sx5, ↓sx6, sx0, sx1, sx2, sx3, sx4, sx5, sx6, tf65, ev3_hold, sxo, sxc, sxp, sxq, sxr, sxs, sxl, sxm, simprocAttr]
      try simp
    rintro k H2 g2 ⟨hk, rfl⟩
    by_cases hkn : k = n
    · have f7 : ((k : Int) < (n : Int)) = False := eq_false (by omega)
      rw [rowF_congr (n := n) (f := fun x => if x < k then saysB d.c ⟨x1, x2, x3, x4, x5, x6, x7, s, x9⟩ x else false) (g := fun x => saysB d.c ⟨x1, x2, x3, x4, x5, x6, x7, s, x9⟩ x) (fun x hx => if_pos (by omega)), ← hXr, ← hH9]
      refine ⟨?_⟩
      simp (config := { maxSteps := 4000000 }) only [↓sx0, ↓sx1, ↓sx2, ↓sx3, ↓sx4, ↓sx5, ↓sx6, sx0, sx1, sx2, sx3, sx4, sx5, sx6, tf65, ev3_hold, sxo, sxc, sxp, sxq, sxr, sxs, sxl, sxm, simprocAttr, f7]
      refine ld_cella (T := 177) (cs := (seaC d (.slice aD n cD) (.slice aT T cT) sS (.slice aR m cR) (.slice aoA n coA) (.slice aoF T coF) (.slice aoX i coX))) (by simp) rfl ?_
      simp (config := { maxSteps := 4000000 }) only [↓sx0, ↓sx1, ↓sx2, ↓sx3, ↓sx4, ↓sx5, ↓sx6, sx0, sx1, sx2, sx3, sx4, sx5, sx6, tf65, ev3_hold, sxo, sxc, sxp, sxq, sxr, sxs, sxl, sxm, simprocAttr]
      intro b3
      refine app_one (f := lpc) (l := psX) ((fiRow d.c ⟨x1, x2, x3, x4, x5, x6, x7, s, x9⟩, some ⟨b2, 0, none⟩, n, n) : Lp Bool) (HImp.swap _ _ _ _) lpc_len lpc_one (by omega) fun a3 c3 => ?_
      rw [hpl]
      simp (config := { maxSteps := 4000000 }) only [↓sx0, ↓sx1, ↓sx2, ↓sx3, ↓sx4, ↓sx5, ↓sx6, sx0, sx1, sx2, sx3, sx4, sx5, sx6, tf65, ev3_hold, sxo, sxc, sxp, sxq, sxr, sxs, sxl, sxm, simprocAttr]
      refine wr_cella (A := [_, _]) (cs := (seaC d (.slice aD n cD) (.slice aT T cT) sS (.slice aR m cR) (.slice aoA n coA) (.slice aoF T coF) (.slice aoX i coX))) rfl (by simp [seaC]) ?_
      simp (config := { maxSteps := 4000000 }) only [↓sx0, ↓sx1, ↓sx2, ↓sx3, ↓sx4, ↓sx5, ↓sx6, sx0, sx1, sx2, sx3, sx4, sx5, sx6, tf65, ev3_hold, sxo, sxc, sxp, sxq, sxr, sxs, sxl, sxm, simprocAttr, e8]
      exact ⟨(i + 1, some a3, c3), _, rfl, HImp.perm (List.Perm.cons _ (List.Perm.swap _ _ _)), ⟨by simp only []; omega, _, _ :: DFX, hnx _ (hXgi), fun h => (by cases h), rfl, fun h hh => List.mem_cons_of_mem _ (hDX h hh), fun p hp => by
        rcases List.mem_append.1 hp with h | h
        · exact List.mem_cons_of_mem _ (hDFX p h)
        · rw [List.mem_singleton] at h
          subst h
          exact List.mem_cons_self⟩, by first | omega | (simp only []; omega)⟩
    have f7 : ((k : Int) < (n : Int)) = True := eq_true (by omega)
    have f8 : wr (k + 1) = ((k + 1 : Nat) : Int) := (wrap_id (by omega)).trans (by omega)
    refine ⟨?_⟩
    simp (config := { maxSteps := 4000000 }) only [↓sx0, ↓sx1, ↓sx2, ↓sx3, ↓sx4, ↓sx5, ↓sx6, sx0, sx1, sx2, sx3, sx4, sx5, sx6, tf65, ev3_hold, sxo, sxc, sxp, sxq, sxr, sxs, sxl, sxm, simprocAttr, f7, dn]
    refine CallOb.pureH (fun w' hp => hsay w' bs ⟨.slice aoA n coA, cells_old (T := 177) (cs := seaC d (.slice aD n cD) (.slice aT T cT) sS (.slice aR m cR) (.slice aoA n coA) (.slice aoF T coF) (.slice aoX i coX)) (by rw [← hH9]; simp) hp 0 _ rfl, cells_old (T := 177) (cs := seaC d (.slice aD n cD) (.slice aT T cT) sS (.slice aR m cR) (.slice aoA n coA) (.slice aoF T coF) (.slice aoX i coX)) (by rw [← hH9]; simp) hp 8 _ rfl, (hLLA _ fun h hh => by rw [← hH9]; exact List.mem_cons_of_mem _ (List.mem_cons_of_mem _ (List.mem_cons_of_mem _ (hDX h (by rw [← hDeF]; exact List.mem_cons_of_mem _ (hDF h (by rw [← hDeA]; exact hh))))))).ok (fun h hh => hh) hp⟩ ⟨x1, x2, x3, x4, x5, x6, x7, s, x9⟩ (List.mem_of_getElem? hr) k (by omega)) ?_
    rintro q N rfl
    refine ⟨?_⟩
    simp (config := { maxSteps := 4000000 }) only [↓sx0, ↓sx1, ↓sx2, ↓sx3, ↓sx4, ↓sx5, ↓sx6, sx0, sx1, sx2, sx3, sx4, sx5, sx6, tf65, ev3_hold, sxo, sxc, sxp, sxq, sxr, sxs, sxl, sxm, simprocAttr]
    refine ⟨by omega, by omega, _, rfl, ?_⟩
    refine wr_at (A := N) (B := H9) (ad := ⟨b2, 0, none⟩) (len := n) (cap := n) (e := 4) (f := b1) (l := rowF n fun x => if x < k then saysB d.c ⟨x1, x2, x3, x4, x5, x6, x7, s, x9⟩ x else false) (u := saysB d.c ⟨x1, x2, x3, x4, x5, x6, x7, s, x9⟩ k) rfl b1_len (by rw [rowF_len]) (by rw [rowF_len]; omega) ?_
    rw [setStep (fun x => saysB d.c ⟨x1, x2, x3, x4, x5, x6, x7, s, x9⟩ x) (fun _ => false) rfl]
    simp (config := { maxSteps := 4000000 }) only [↓sx0, ↓sx1, ↓sx2, ↓sx3, ↓sx4, ↓sx5, ↓sx6, sx0, sx1, sx2, sx3, sx4, sx5, sx6, tf65, ev3_hold, sxo, sxc, sxp, sxq, sxr, sxs, sxl, sxm, simprocAttr, f8]
    exact ⟨k + 1, _, rfl, HImp.app _ _ _, ⟨by omega, rfl⟩, by omega⟩
  have hin := hin.symm
  subst hin
  have e7 : ((m : Int) < (m : Int)) = False := eq_false (by omega)
  rw [List.take_of_length_le (by omega)] at hpsX
  have hLLX := LLN_end (T := 178) (v := .slice aoX m coX) (X := HO.row (.slice none 0 0) 178 1 []) hpsX hDFX
  obtain ⟨DX, hDeX⟩ : ∃ D, HO.row (.slice aoX m coX) 178 1 (cat lpc (psX : List (Lp Bool))) :: DFX = D := ⟨_, rfl⟩
  refine ⟨?_⟩
  simp (config := { maxSteps := 4000000 }) only [↓sx0, ↓sx1, ↓sx2, ↓sx3, ↓sx4, ↓sx5, ↓sx6, sx0, sx1, sx2, sx3, sx4, sx5, sx6, tf65, ev3_hold, sxo, sxc, sxp, sxq, sxr, sxs, sxl, sxm, simprocAttr, e7]
  refine .inr ⟨bs, rfl, _, _, _, _, .slice aoA n coA, .slice aoF T coF, .slice aoX m coX, rfl, ?_, ?_, ?_, ?_⟩
  · exact List.mem_cons_of_mem _ List.mem_cons_self
  · exact hLLA _ fun h hh => List.mem_cons_of_mem _ (List.mem_cons_of_mem _ (hDX h (by rw [← hDeF]; exact List.mem_cons_of_mem _ (hDF h (by rw [← hDeA]; exact hh)))))
  · exact hLLF _ fun h hh => List.mem_cons_of_mem _ (List.mem_cons_of_mem _ (hDX h (by rw [← hDeF]; exact hh)))
  · exact hLLX _ fun h hh => by
      rcases List.mem_cons.1 hh with h1 | h1
      · rw [h1]; exact List.mem_cons_self
      · exact List.mem_cons_of_mem _ (List.mem_cons_of_mem _ h1)
end Go.Proofs.YtnbogcpnpcbjgaaGreatDoor

