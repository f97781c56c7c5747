/- A part of a proof: the symbolic walk and what it shows of single functions. -/
import Derived.Test.YtpmodggfogahhaaGreatDoorD1
import Derived.Test.YtpmodggfogahhaaGreatDoorD1
import Derived.Test.YtpmodggfogahhaaGreatDoorD1
import Derived.Test.YtpmodggfogahhaaGreatDoorF6
import Derived.Test.YtpmodggfogahhaaGreatDoorF6
set_option linter.all false
namespace Go.Proofs.YtpmodggfogahhaaGreatDoor
open Go.RowKit Go.SX
set_option maxRecDepth 20000
set_option maxHeartbeats 0
set_option linter.unusedSimpArgs false
set_option linter.unusedVariables false
theorem DsR.ch {d : Dis} {y z u : Value} {R H : List HO} (h : DsR d y z u R) {ax : Option Addr} {n cx : Nat} {D : List Int} (hr : HO.row (.slice ax n cx) 3 1 (ints D) ∈ H) (hm : ∀ h ∈ R, h ∈ H) {w0 : Base} {w : World} (hp : Hp w0 H w) :
    ChOk w (.agg #[I d.c.wide, I d.c.high, .slice ax n cx, y, z]) ⟨d.c.wide, d.c.high, D, d.c.tide, d.c.swell⟩ := by
  obtain ⟨h1, h2, ad, c, rfl, h3⟩ := h
  exact ⟨_, _, _, rfl, row_hp hr hp, h1.hp hm hp, h2.hp hm hp⟩
theorem lit_small {d : Dis} (hf : d.few) (g p D : Int) (k : Nat) : (d.lit g p D k).small := by
  obtain ⟨h1, h2⟩ := hf.small
  refine ⟨⟨?_, h1.2⟩, h2⟩
  show (dpK D d.c.depth k).length ≤ 200
  rw [dpK_len]
  exact h1.1
theorem E2_zero {d : Dis} (hE : d.E = 0) {t : Nat} (ht : t < d.c.tide.length) : d.E2 t 0 = 0 := by
  obtain ⟨hok, _⟩ := Dis.E_zero hE
  unfold Dis.E2
  obtain ⟨_, _, hW, hH, hlen⟩ := hok.dims
  have h1 : 1 ≤ d.c.depth.length := by rw [hlen]; exact Nat.mul_le_mul hW.1 hH.1
  rw [if_pos hE, if_pos]
  rw [Bool.and_eq_true, inB_iff, inB_iff]
  omega
theorem topLighter_fn (w : World) (hw : Ways w) (v : Value) (d : Dis) (hd : DsOk w v d) (g p D tick : Int) :
    SX.Fn Tryz.prog 5 [v, .agg #[I g, I p, I D], I tick] w (fun _ => False) fun q N => q = .bool true := by
  have hd0 := hd
  have dn : ∀ (g : Nat) (xs : List Value), det0 g xs = none := fun _ _ => rfl
  have hlv := fun (H : List HO) w' (hp : Hp ⟨w, fun _ => False⟩ H w') => lives_fn w' (hw.hp hp)
  have hva := fun (H : List HO) w' (hp : Hp ⟨w, fun _ => False⟩ H w') => vague_fn w' (hw.hp hp) v d (hd0.hp hp)
  have hck := fun (hs : d.small) (H : List HO) w' (hp : Hp ⟨w, fun _ => False⟩ H w') => rcheck3_fn w' (hw.hp hp) v d (hd0.hp hp) hs
  have hcp := fun (hf : d.few) (H : List HO) w' (hp : Hp ⟨w, fun _ => False⟩ H w') => copy3D_fn w' v d (hd0.hp hp) hf
  have hwo := fun (hs : d.small) (H : List HO) w' (hp : Hp ⟨w, fun _ => False⟩ H w') => where_fn w' (hw.hp hp) v d (hd0.hp hp) hs tick
  have hdo := fun (hs : d.small) (H : List HO) w' (hp : Hp ⟨w, fun _ => False⟩ H w') => doubt3_fn w' (hw.hp hp) v d (hd0.hp hp) hs
  have hwq := fun (q : Dis) (hs : q.small) (v' : Value) (H : List HO) (w' : World) (hp : Hp ⟨w, fun _ => False⟩ H w') (h : DsOk w' v' q) => where_fn w' (hw.hp hp) v' q h hs tick
  have hdq := fun (q : Dis) (hs : q.small) (v' : Value) (H : List HO) (w' : World) (hp : Hp ⟨w, fun _ => False⟩ H w') (h : DsOk w' v' q) => doubt3_fn w' (hw.hp hp) v' q h hs
  obtain ⟨sD, sT, sS, sR, rfl, hc, hsR⟩ := hd
  have hfo := fun (hs : d.c.small) (k : Int) (H : List HO) w' (hp : Hp ⟨w, fun _ => False⟩ H w') => floats1_fn w' _ d.c (hc.hp hp) hs d.dr k tick
  obtain ⟨_, _, _, hh, hsD, hsT, hsS⟩ := hc
  cases hh
  obtain ⟨aT, nT, cT, rfl⟩ := hsT.shape
  have hnT := hsT.le spc_len (by omega)
  subst hnT
  have hit := fun w' => isTick_fn w' d.c.wide d.c.high tick sD sS aT d.c.tide.length cT
  refine walkC [3, 37] [] [] (det0_ok _ _) Tryz.func5 rfl Tryz.ntmps5 res5 (by kernel_rfl) no_facts ?_
  simp (config := { maxSteps := 4000000 }) only [↓sx0, ↓sx1, ↓sx2, ↓sx3, ↓sx4, ↓sx5, ↓sx6, sx0, sx1, sx2, sx3, sx4, sx5, sx6, tf5, ev3_hold, sxo, sxc, sxp, sxq, sxr, sxs, sxl, sxm, simprocAttr, dn]
  refine cut_constH [(26, 71)] (fun b : Bool => [(71, .bool b)]) (fun b H2 => b = false → d.few ∧ d.E = 0 ∧ (0 ≤ tick ∧ tick ≤ (d.c.tide.length : Int) - 1) ∧ (0 ≤ g ∧ g < d.dr) ∧ (0 ≤ p ∧ p ≤ 5) ∧ 0 ≤ D ∧ D ≤ 1000) ?_ ?_
  · refine ⟨?_⟩
    simp (config := { maxSteps := 4000000 }) only [↓sx0, ↓sx1, ↓sx2, ↓sx3, ↓sx4, ↓sx5, ↓sx6, sx0, sx1, sx2, sx3, sx4, sx5, sx6, tf5, ev3_hold, sxo, sxc, sxp, sxq, sxr, sxs, sxl, sxm, simprocAttr, dn]
    refine CallOb.pureH (fun w' hp' => hva _ w' hp') ?_
    rintro q N ⟨bv, rfl, hbv⟩
    cases bv with
    | true =>
      refine ⟨?_⟩
      simp (config := { maxSteps := 4000000 }) only [↓sx0, ↓sx1, ↓sx2, ↓sx3, ↓sx4, ↓sx5, ↓sx6, sx0, sx1, sx2, sx3, sx4, sx5, sx6, tf5, ev3_hold, sxo, sxc, sxp, sxq, sxr, sxs, sxl, sxm, simprocAttr, dn]
      exact ⟨true, _, rfl, HImp.refl _ _, fun h => by cases h⟩
    | false =>
    have hf := hbv rfl
    have hck := hck hf.small
    refine ⟨?_⟩
    simp (config := { maxSteps := 4000000 }) only [↓sx0, ↓sx1, ↓sx2, ↓sx3, ↓sx4, ↓sx5, ↓sx6, sx0, sx1, sx2, sx3, sx4, sx5, sx6, tf5, ev3_hold, sxo, sxc, sxp, sxq, sxr, sxs, sxl, sxm, simprocAttr, dn]
    refine CallOb.pureH (fun w' hp' => hck _ w' hp') ?_
    rintro q N2 rfl
    by_cases hE : d.E = 0
    case neg =>
      have z1 : (d.E = 0) = False := eq_false hE
      refine ⟨?_⟩
      simp (config := { maxSteps := 4000000 }) only [↓sx0, ↓sx1, ↓sx2, ↓sx3, ↓sx4, ↓sx5, ↓sx6, sx0, sx1, sx2, sx3, sx4, sx5, sx6, tf5, ev3_hold, sxo, sxc, sxp, sxq, sxr, sxs, sxl, sxm, simprocAttr, z1, dn]
      exact ⟨true, _, rfl, HImp.refl _ _, fun h => by cases h⟩
    have z1 : (d.E = 0) = True := eq_true hE
    obtain ⟨hok, _⟩ := Dis.E_zero hE
    have hT1 := hok.2.2.2.1
    have e1 : wr ((d.c.tide.length : Int) - 1) = (d.c.tide.length : Int) - 1 := wrap_id (by omega)
    refine ⟨?_⟩
    simp (config := { maxSteps := 4000000 }) only [↓sx0, ↓sx1, ↓sx2, ↓sx3, ↓sx4, ↓sx5, ↓sx6, sx0, sx1, sx2, sx3, sx4, sx5, sx6, tf5, ev3_hold, sxo, sxc, sxp, sxq, sxr, sxs, sxl, sxm, simprocAttr, z1, dn]
    refine CallOb.pureH (fun w' hp => hit w') ?_
    rintro q N3 rfl
    rw [e1]
    cases hTk : inB tick 0 ((d.c.tide.length : Int) - 1) with
    | false =>
      refine ⟨?_⟩
      simp (config := { maxSteps := 4000000 }) only [↓sx0, ↓sx1, ↓sx2, ↓sx3, ↓sx4, ↓sx5, ↓sx6, sx0, sx1, sx2, sx3, sx4, sx5, sx6, tf5, ev3_hold, sxo, sxc, sxp, sxq, sxr, sxs, sxl, sxm, simprocAttr, dn]
      exact ⟨true, _, rfl, HImp.refl _ _, fun h => by cases h⟩
    | true =>
    have hTk2 := (inB_iff _ _ _).1 hTk
    by_cases k1 : g < 0
    · have y1 : (g < 0) = True := eq_true k1
      refine ⟨?_⟩
      simp (config := { maxSteps := 4000000 }) only [↓sx0, ↓sx1, ↓sx2, ↓sx3, ↓sx4, ↓sx5, ↓sx6, sx0, sx1, sx2, sx3, sx4, sx5, sx6, tf5, ev3_hold, sxo, sxc, sxp, sxq, sxr, sxs, sxl, sxm, simprocAttr, y1, dn]
      exact ⟨true, _, rfl, HImp.refl _ _, fun h => by cases h⟩
    have y1 : (g < 0) = False := eq_false k1
    by_cases k2 : g ≥ d.dr
    · have y2 : (g ≥ d.dr) = True := eq_true k2
      refine ⟨?_⟩
      simp (config := { maxSteps := 4000000 }) only [↓sx0, ↓sx1, ↓sx2, ↓sx3, ↓sx4, ↓sx5, ↓sx6, sx0, sx1, sx2, sx3, sx4, sx5, sx6, tf5, ev3_hold, sxo, sxc, sxp, sxq, sxr, sxs, sxl, sxm, simprocAttr, y1, y2, dn]
      exact ⟨true, _, rfl, HImp.refl _ _, fun h => by cases h⟩
    have y2 : (g ≥ d.dr) = False := eq_false k2
    by_cases k3 : p < 0
    · have y3 : (p < 0) = True := eq_true k3
      refine ⟨?_⟩
      simp (config := { maxSteps := 4000000 }) only [↓sx0, ↓sx1, ↓sx2, ↓sx3, ↓sx4, ↓sx5, ↓sx6, sx0, sx1, sx2, sx3, sx4, sx5, sx6, tf5, ev3_hold, sxo, sxc, sxp, sxq, sxr, sxs, sxl, sxm, simprocAttr, y1, y2, y3, dn]
      exact ⟨true, _, rfl, HImp.refl _ _, fun h => by cases h⟩
    have y3 : (p < 0) = False := eq_false k3
    by_cases k4 : p > 5
    · have y4 : (p > 5) = True := eq_true k4
      refine ⟨?_⟩
      simp (config := { maxSteps := 4000000 }) only [↓sx0, ↓sx1, ↓sx2, ↓sx3, ↓sx4, ↓sx5, ↓sx6, sx0, sx1, sx2, sx3, sx4, sx5, sx6, tf5, ev3_hold, sxo, sxc, sxp, sxq, sxr, sxs, sxl, sxm, simprocAttr, y1, y2, y3, y4, dn]
      exact ⟨true, _, rfl, HImp.refl _ _, fun h => by cases h⟩
    have y4 : (p > 5) = False := eq_false k4
    by_cases k5 : D < 0
    · have y5 : (D < 0) = True := eq_true k5
      refine ⟨?_⟩
      simp (config := { maxSteps := 4000000 }) only [↓sx0, ↓sx1, ↓sx2, ↓sx3, ↓sx4, ↓sx5, ↓sx6, sx0, sx1, sx2, sx3, sx4, sx5, sx6, tf5, ev3_hold, sxo, sxc, sxp, sxq, sxr, sxs, sxl, sxm, simprocAttr, y1, y2, y3, y4, y5, dn]
      exact ⟨true, _, rfl, HImp.refl _ _, fun h => by cases h⟩
    have y5 : (D < 0) = False := eq_false k5
    by_cases k6 : D > 1000
    · have y6 : (D > 1000) = True := eq_true k6
      refine ⟨?_⟩
      simp (config := { maxSteps := 4000000 }) only [↓sx0, ↓sx1, ↓sx2, ↓sx3, ↓sx4, ↓sx5, ↓sx6, sx0, sx1, sx2, sx3, sx4, sx5, sx6, tf5, ev3_hold, sxo, sxc, sxp, sxq, sxr, sxs, sxl, sxm, simprocAttr, y1, y2, y3, y4, y5, y6, dn]
      exact ⟨true, _, rfl, HImp.refl _ _, fun h => by cases h⟩
    have y6 : (D > 1000) = False := eq_false k6
    refine ⟨?_⟩
    simp (config := { maxSteps := 4000000 }) only [↓sx0, ↓sx1, ↓sx2, ↓sx3, ↓sx4, ↓sx5, ↓sx6, sx0, sx1, sx2, sx3, sx4, sx5, sx6, tf5, ev3_hold, sxo, sxc, sxp, sxq, sxr, sxs, sxl, sxm, simprocAttr, y1, y2, y3, y4, y5, y6, dn]
    exact ⟨false, _, rfl, HImp.refl _ _, fun _ => by
      refine ⟨hf, hE, ?_⟩
      omega⟩
  rintro b H2 g2 hb
  cases b with
  | true =>
    refine ⟨?_⟩
    simp (config := { maxSteps := 4000000 }) only [↓sx0, ↓sx1, ↓sx2, ↓sx3, ↓sx4, ↓sx5, ↓sx6, sx0, sx1, sx2, sx3, sx4, sx5, sx6, tf5, ev3_hold, sxo, sxc, sxp, sxq, sxr, sxs, sxl, sxm, simprocAttr, dn]
    refine CallOb.pureH (fun w' hp => hlv _ w' hp) ?_
    rintro q NN rfl
    refine ⟨?_⟩
    simp (config := { maxSteps := 4000000 }) only [↓sx0, ↓sx1, ↓sx2, ↓sx3, ↓sx4, ↓sx5, ↓sx6, sx0, sx1, sx2, sx3, sx4, sx5, sx6, tf5, ev3_hold, sxo, sxc, sxp, sxq, sxr, sxs, sxl, sxm, simprocAttr]
  | false =>
  obtain ⟨hf, hE, hTk, hg, hp0, hD⟩ := hb rfl
  obtain ⟨hok, hdr, hpc, hm, hr⟩ := Dis.E_zero hE
  have hT1 := hok.2.2.2.1
  obtain ⟨t, htk⟩ : ∃ t : Nat, tick = t := ⟨tick.toNat, by omega⟩
  have ht : t < d.c.tide.length := by omega
  obtain ⟨_, _, hW, hH, hlen⟩ := hok.dims
  have hn1 : 1 ≤ d.c.depth.length := by rw [hlen]; exact Nat.mul_le_mul hW.1 hH.1
  have hn2 : d.c.depth.length ≤ 200 := hf.small.1.1
  have e1 : wr (d.dr - g) = d.dr - g := wrap_id (by omega)
  have e2 : wr (d.pc + p) = d.pc + p := wrap_id (by omega)
  have hcp := hcp hf
  have hnd : notDraught d.dr = false := by
    unfold notDraught
    rw [Bool.not_eq_false', inB_iff]
    omega
  have hnd2 : notDraught (d.dr - g) = false := by
    unfold notDraught
    rw [Bool.not_eq_false', inB_iff]
    omega
  have hfv : ∀ k : Nat, k < d.c.depth.length → floatsV d.c d.dr k tick = .tuple #[.bool (decide (d.c.over k t (d.c.tlo t) ≥ d.dr)), .bool (d.may t k), I 0] := fun k hk => by
    rw [htk]
    exact floatsV_at hok hk ht hnd
  have hfq : ∀ k : Nat, k < d.c.depth.length → floatsV (d.lit g p D (k + 1)).c (d.dr - g) k tick = .tuple #[.bool (decide ((d.lit g p D (k + 1)).c.over k t (d.c.tlo t) ≥ d.dr - g)), .bool ((d.lit g p D (k + 1)).may t k), I 0] := fun k hk => by
    rw [htk]
    exact floatsV_at (lit_ok hok hD (k + 1)) (by show k < (dpK D d.c.depth (k + 1)).length; rw [dpK_len]; exact hk) ht hnd2
  have hfo := hfo hf.small.1
  have z0 : ((0 : Int) = 0) = True := eq_true rfl
  refine ⟨?_⟩
  simp (config := { maxSteps := 4000000 }) only [↓sx0, ↓sx1, ↓sx2, ↓sx3, ↓sx4, ↓sx5, ↓sx6, sx0, sx1, sx2, sx3, sx4, sx5, sx6, tf5, ev3_hold, sxo, sxc, sxp, sxq, sxr, sxs, sxl, sxm, simprocAttr, dn]
  refine CallOb.pureH (fun w' hp => hcp _ w' hp) ?_
  rintro q N4 ⟨ax, cx, vy, vz, vu, A, B, rfl, hnil, rfl, hDR⟩
  obtain ⟨ax, rfl⟩ : ∃ a, ax = some a := by
    cases ax with
    | none =>
      have := hnil rfl
      rw [this] at hn1
      simp at hn1
    | some a => exact ⟨a, rfl⟩
  obtain ⟨ay, cy, rfl⟩ := hDR.1.shape
  obtain ⟨az, cz, rfl⟩ := hDR.2.1.shape
  obtain ⟨au, cu, rfl⟩ : ∃ a c, vu = .slice a d.rs.length c := by
    obtain ⟨_, _, a, c, h, _⟩ := hDR
    exact ⟨a, c, h⟩
  have hperm : List.Perm ((A ++ HO.row (.slice (some ax) d.c.depth.length cx) 3 1 (ints d.c.depth) :: B) ++ H2) (HO.row (.slice (some ax) d.c.depth.length cx) 3 1 (ints d.c.depth) :: ((A ++ B) ++ H2)) := by
    rw [List.append_assoc, List.append_assoc, List.cons_append]
    exact List.perm_middle
  refine ⟨?_⟩
  simp (config := { maxSteps := 4000000 }) only [↓sx0, ↓sx1, ↓sx2, ↓sx3, ↓sx4, ↓sx5, ↓sx6, sx0, sx1, sx2, sx3, sx4, sx5, sx6, tf5, ev3_hold, sxo, sxc, sxp, sxq, sxr, sxs, sxl, sxm, simprocAttr, e1, e2]
  refine loop_constH (HO.row (.slice (some ax) d.c.depth.length cx) 3 1 (ints d.c.depth) :: ((A ++ B) ++ H2)) (HImp.perm hperm) [(6, 6), (8, 14), (88, 145)] (fun k : Nat => [(8, I k)]) (fun k H1 => k ≤ d.c.depth.length ∧ H1 = HO.row (.slice (some ax) d.c.depth.length cx) 3 1 (ints (dpK D d.c.depth k)) :: ((A ++ B) ++ H2)) (fun k => d.c.depth.length - k) 0 ?_ ⟨Nat.zero_le _, by rw [dpK_zero]⟩ ?_
  · simp (config := { maxSteps := 4000000 }) only [↓sx0, ↓sx1, ↓sx2, ↓sx3, ↓sx4, ↓sx5, ↓sx6, sx0, sx1, sx2, sx3, sx4, sx5, sx6, tf5, ev3_hold, sxo, sxc, sxp, sxq, sxr, sxs, sxl, sxm, simprocAttr]
    try simp
  rintro k H1 g1 ⟨hk, rfl⟩
  by_cases hkn : k = d.c.depth.length
  case neg =>
    have e7 : ((k : Int) < (d.c.depth.length : Int)) = True := eq_true (by omega)
    have e8 : wr (k + 1) = ((k + 1 : Nat) : Int) := (wrap_id (by omega)).trans (by omega)
    have hkl : k < d.c.depth.length := by omega
    obtain ⟨y, hy⟩ : ∃ y, d.c.depth[k]? = some y := ⟨_, List.getElem?_eq_getElem hkl⟩
    have hy2 : (dpK D d.c.depth k)[k]? = some y := by
      rw [dpK_get, if_neg (by omega)]
      exact hy
    have hyb := hok.2.2.2.2.2.1 _ (List.mem_of_getElem? hy)
    have e9 : wr (y + D) = y + D := wrap_id (by omega)
    have hst := dpK_set D d.c.depth k hy
    refine ⟨?_⟩
    simp (config := { maxSteps := 4000000 }) only [↓sx0, ↓sx1, ↓sx2, ↓sx3, ↓sx4, ↓sx5, ↓sx6, sx0, sx1, sx2, sx3, sx4, sx5, sx6, tf5, ev3_hold, sxo, sxc, sxp, sxq, sxr, sxs, sxl, sxm, simprocAttr, e7, e9]
    refine amid (at_1 (row_rdv List.mem_cons_self ⟨_, _, _, rfl, by rw [cat_len i1_len, dpK_len], fun h => by cases h⟩) i1_len hy2 rfl fun ad1 => ?_)
    have hfk := hfo (k : Int)
    rw [hfv k hkl] at hfk
    have hfk2 := fun (H : List HO) w' (hp : Hp ⟨w, fun _ => False⟩ H w') (hr : HO.row (.slice (some ax) d.c.depth.length cx) 3 1 (ints (dpK D d.c.depth (k + 1))) ∈ H) (hm : ∀ h ∈ A ++ B, h ∈ H) => floats1_fn w' _ (d.lit g p D (k + 1)).c (hDR.ch hr hm hp) (lit_small hf g p D (k + 1)).1 (d.dr - g) (k : Int) tick
    rw [hfq k hkl] at hfk2
    have hmm := fun h => lit_may hok (g := g) (p := p) hg.1 hD.1 (k := k + 1) (t := t) hkl h
    obtain ⟨mb, hmb⟩ : ∃ b, d.may t k = b := ⟨_, rfl⟩
    obtain ⟨mq, hmq⟩ : ∃ b, (d.lit g p D (k + 1)).may t k = b := ⟨_, rfl⟩
    rw [hmb] at hfk hmm
    rw [hmq] at hfk2 hmm
    simp (config := { maxSteps := 4000000 }) only [↓sx0, ↓sx1, ↓sx2, ↓sx3, ↓sx4, ↓sx5, ↓sx6, sx0, sx1, sx2, sx3, sx4, sx5, sx6, tf5, ev3_hold, sxo, sxc, sxp, sxq, sxr, sxs, sxl, sxm, simprocAttr, e7, e9]
    refine ⟨by omega, _, rfl, ?_⟩
    refine wr_at (A := []) (l := dpK D d.c.depth k) (k := k) (u := min 1000 (y + D)) rfl i1_len (dpK_len _ _ _) (by rw [dpK_len]; omega) ?_
    simp (config := { maxSteps := 4000000 }) only [↓sx0, ↓sx1, ↓sx2, ↓sx3, ↓sx4, ↓sx5, ↓sx6, sx0, sx1, sx2, sx3, sx4, sx5, sx6, tf5, ev3_hold, sxo, sxc, sxp, sxq, sxr, sxs, sxl, sxm, simprocAttr, hst, List.nil_append, dn]
    refine CallOb.pureH (fun w' hp => hfk _ w' hp) ?_
    rintro q N10 rfl
    refine ⟨?_⟩
    simp (config := { maxSteps := 4000000 }) only [↓sx0, ↓sx1, ↓sx2, ↓sx3, ↓sx4, ↓sx5, ↓sx6, sx0, sx1, sx2, sx3, sx4, sx5, sx6, tf5, ev3_hold, sxo, sxc, sxp, sxq, sxr, sxs, sxl, sxm, simprocAttr, dn]
    refine CallOb.pureH (fun w' hp => hfk2 _ w' hp (by simp) (fun h hh => List.mem_append_right _ (List.mem_cons_of_mem _ (List.mem_append_left _ hh)))) ?_
    rintro q N11 rfl
    cases mb with
    | true =>
      obtain rfl : mq = true := hmm rfl
      refine ⟨?_⟩
      simp (config := { maxSteps := 4000000 }) only [↓sx0, ↓sx1, ↓sx2, ↓sx3, ↓sx4, ↓sx5, ↓sx6, sx0, sx1, sx2, sx3, sx4, sx5, sx6, tf5, ev3_hold, sxo, sxc, sxp, sxq, sxr, sxs, sxl, sxm, simprocAttr, z0, e8]
      exact ⟨k + 1, _, rfl, (HImp.app _ _ _).trans (HImp.app _ _ _), ⟨by omega, rfl⟩, by omega⟩
    | false =>
      refine ⟨?_⟩
      simp (config := { maxSteps := 4000000 }) only [↓sx0, ↓sx1, ↓sx2, ↓sx3, ↓sx4, ↓sx5, ↓sx6, sx0, sx1, sx2, sx3, sx4, sx5, sx6, tf5, ev3_hold, sxo, sxc, sxp, sxq, sxr, sxs, sxl, sxm, simprocAttr, z0, e8]
      exact ⟨k + 1, _, rfl, (HImp.app _ _ _).trans (HImp.app _ _ _), ⟨by omega, rfl⟩, by omega⟩
  have e7 : ((k : Int) < (d.c.depth.length : Int)) = False := eq_false (by omega)
  have hE2 : d.E2 tick 0 = 0 := by rw [htk]; exact E2_zero hE ht
  obtain ⟨dq, hdqe⟩ : ∃ dq, d.lit g p D k = dq := ⟨_, rfl⟩
  have hEq : dq.E = 0 := by rw [← hdqe]; exact lit_E hE hg hp0.1 hD k
  have hE2q : dq.E2 tick 0 = 0 := by rw [htk]; exact E2_zero hEq (by rw [← hdqe]; exact ht)
  have hwo := hwo hf.small
  have hdo := hdo hf.small
  unfold WhereP at hwo
  unfold DoubtP at hdo
  simp only [hE2, if_true] at hwo
  simp only [hE, true_and, if_true] at hdo
  have hwq := fun (H : List HO) w' (hp : Hp ⟨w, fun _ => False⟩ H w') (hr : HO.row (.slice (some ax) d.c.depth.length cx) 3 1 (ints (dpK D d.c.depth k)) ∈ H) (hm : ∀ h ∈ A ++ B, h ∈ H) => hwq dq (by rw [← hdqe]; exact lit_small hf g p D k) _ H w' hp (by rw [← hdqe]; exact hDR.ok hr hm hp (d.dr - g) (min 5 (d.pc + p)))
  have hdq := fun (H : List HO) w' (hp : Hp ⟨w, fun _ => False⟩ H w') (hr : HO.row (.slice (some ax) d.c.depth.length cx) 3 1 (ints (dpK D d.c.depth k)) ∈ H) (hm : ∀ h ∈ A ++ B, h ∈ H) => hdq dq (by rw [← hdqe]; exact lit_small hf g p D k) _ H w' hp (by rw [← hdqe]; exact hDR.ok hr hm hp (d.dr - g) (min 5 (d.pc + p)))
  unfold WhereP at hwq
  unfold DoubtP at hdq
  simp only [hE2q, if_true] at hwq
  simp only [hEq, true_and, if_true] at hdq
  have hsub : ∀ x, x ∈ d.whrL tick → x ∈ dq.whrL tick := by
    rw [htk, ← hdqe]
    exact fun x hx => lit_where hE hg hp0.1 hD ht hx
  have hlst : (d.crs d.pDbt).least < NV → (dq.crs dq.pDbt).least ≤ (d.crs d.pDbt).least := by
    rw [← hdqe]
    exact fun h => lit_doubt hE hg hp0.1 hD h
  have hWl : (dq.whrL tick).length ≤ 200 := by
    have h1 : (dq.whrL tick).length ≤ dq.c.depth.length := chpL_len _ _ _
    have h2 : dq.c.depth.length = d.c.depth.length := by rw [← hdqe]; exact dpK_len _ _ _
    omega
  have hWl2 : (d.whrL tick).length ≤ 200 := by
    have h1 : (d.whrL tick).length ≤ d.c.depth.length := chpL_len _ _ _
    omega
  have hea : (if d.whrL tick = [] then (3 : Int) else 0) = 0 → (if dq.whrL tick = [] then (3 : Int) else 0) = 0 := fun h => by
    by_cases h1 : d.whrL tick = []
    · rw [if_pos h1] at h
      cases h
    · rw [if_neg]
      intro h2
      cases hl : d.whrL tick with
      | nil => exact h1 hl
      | cons x l =>
        have := hsub x (by rw [hl]; exact List.mem_cons_self)
        rw [h2] at this
        cases this
  have hec : (if (d.crs d.pDbt).least < NV then (0 : Int) else 3) = 0 → (if (dq.crs dq.pDbt).least < NV then (0 : Int) else 3) = 0 ∧ (if (dq.crs dq.pDbt).least < NV then (dq.crs dq.pDbt).least else 0) ≤ (if (d.crs d.pDbt).least < NV then (d.crs d.pDbt).least else 0) := fun h => by
    by_cases h1 : (d.crs d.pDbt).least < NV
    · have h2 := hlst h1
      have h3 : (dq.crs dq.pDbt).least < NV := by omega
      rw [if_pos h3, if_pos h3, if_pos h1]
      exact ⟨rfl, h2⟩
    · rw [if_neg h1] at h
      cases h
  have hsz : ∀ y, y ∈ zs (d.whrL tick) → y ∈ zs (dq.whrL tick) := fun y hy => by
    unfold zs at hy ⊢
    obtain ⟨x, hx, rfl⟩ := List.mem_map.1 hy
    exact List.mem_map.2 ⟨x, hsub x hx, rfl⟩
  have hzl1 := zs_len (d.whrL tick)
  have hzl2 := zs_len (dq.whrL tick)
  obtain ⟨LA, hLA⟩ : ∃ LA, zs (d.whrL tick) = LA := ⟨_, rfl⟩
  obtain ⟨LB, hLB⟩ : ∃ LB, zs (dq.whrL tick) = LB := ⟨_, rfl⟩
  obtain ⟨ea, hea0⟩ : ∃ e, (if d.whrL tick = [] then (3 : Int) else 0) = e := ⟨_, rfl⟩
  obtain ⟨eb, heb0⟩ : ∃ e, (if dq.whrL tick = [] then (3 : Int) else 0) = e := ⟨_, rfl⟩
  obtain ⟨ec, hec0⟩ : ∃ e, (if (d.crs d.pDbt).least < NV then (0 : Int) else 3) = e := ⟨_, rfl⟩
  obtain ⟨ed, hed0⟩ : ∃ e, (if (dq.crs dq.pDbt).least < NV then (0 : Int) else 3) = e := ⟨_, rfl⟩
  obtain ⟨md, hmd⟩ : ∃ e, (if (d.crs d.pDbt).least < NV then (d.crs d.pDbt).least else 0) = e := ⟨_, rfl⟩
  obtain ⟨mq, hmq⟩ : ∃ e, (if (dq.crs dq.pDbt).least < NV then (dq.crs dq.pDbt).least else 0) = e := ⟨_, rfl⟩
  simp only [hLA, hea0] at hwo
  simp only [hLB, heb0] at hwq
  simp only [hec0, hmd] at hdo
  simp only [hed0, hmq] at hdq
  rw [hea0, heb0] at hea
  rw [hec0, hed0, hmd, hmq] at hec
  rw [hLA] at hzl1 hsz
  rw [hLB] at hzl2 hsz
  refine ⟨?_⟩
  simp (config := { maxSteps := 4000000 }) only [↓sx0, ↓sx1, ↓sx2, ↓sx3, ↓sx4, ↓sx5, ↓sx6, sx0, sx1, sx2, sx3, sx4, sx5, sx6, tf5, ev3_hold, sxo, sxc, sxp, sxq, sxr, sxs, sxl, sxm, simprocAttr, e7, dn]
  refine CallOb.pureH (fun w' hp => hwo _ w' hp) ?_
  rintro q N20 ⟨v1, rfl, hG1⟩
  obtain ⟨a1, c1, rfl⟩ := hG1.shape
  refine ⟨?_⟩
  simp (config := { maxSteps := 4000000 }) only [↓sx0, ↓sx1, ↓sx2, ↓sx3, ↓sx4, ↓sx5, ↓sx6, sx0, sx1, sx2, sx3, sx4, sx5, sx6, tf5, ev3_hold, sxo, sxc, sxp, sxq, sxr, sxs, sxl, sxm, simprocAttr, dn]
  refine CallOb.pureH (fun w' hp => hwq _ w' hp (by simp) (fun h hh => List.mem_append_right _ (List.mem_cons_of_mem _ (List.mem_append_left _ hh)))) ?_
  rintro q N21 ⟨v2, rfl, hG2⟩
  obtain ⟨a2, c2, rfl⟩ := hG2.shape
  refine ⟨?_⟩
  simp (config := { maxSteps := 4000000 }) only [↓sx0, ↓sx1, ↓sx2, ↓sx3, ↓sx4, ↓sx5, ↓sx6, sx0, sx1, sx2, sx3, sx4, sx5, sx6, tf5, ev3_hold, sxo, sxc, sxp, sxq, sxr, sxs, sxl, sxm, simprocAttr, dn]
  refine CallOb.pureH (fun w' hp => hdo _ w' hp) ?_
  rintro q N22 ⟨v3, rfl, hG3⟩
  obtain ⟨a3, c3, rfl⟩ := hG3.shape
  refine ⟨?_⟩
  simp (config := { maxSteps := 4000000 }) only [↓sx0, ↓sx1, ↓sx2, ↓sx3, ↓sx4, ↓sx5, ↓sx6, sx0, sx1, sx2, sx3, sx4, sx5, sx6, tf5, ev3_hold, sxo, sxc, sxp, sxq, sxr, sxs, sxl, sxm, simprocAttr, dn]
  refine CallOb.pureH (fun w' hp => hdq _ w' hp (by simp) (fun h hh => List.mem_append_right _ (List.mem_append_right _ (List.mem_append_right _ (List.mem_cons_of_mem _ (List.mem_append_left _ hh)))))) ?_
  rintro q N23 ⟨v4, rfl, hG4⟩
  obtain ⟨a4, c4, rfl⟩ := hG4.shape
  refine ⟨?_⟩
  simp (config := { maxSteps := 4000000 }) only [↓sx0, ↓sx1, ↓sx2, ↓sx3, ↓sx4, ↓sx5, ↓sx6, sx0, sx1, sx2, sx3, sx4, sx5, sx6, tf5, ev3_hold, sxo, sxc, sxp, sxq, sxr, sxs, sxl, sxm, simprocAttr]
  refine cut_constH [(170, 188)] (fun _ : Unit => [(188, .bool false)]) (fun _ H3 => (∀ h ∈ N20, h ∈ H3) ∧ ∀ h ∈ N21, h ∈ H3) ?_ ?_
  · have hfin : ∀ h : HO, (h ∈ N20 → h ∈ N23 ++ (N22 ++ (N21 ++ (N20 ++ (HO.row (.slice (some ax) d.c.depth.length cx) 3 1 (ints (dpK D d.c.depth k)) :: ((A ++ B) ++ H2)))))) := fun h hh => by simp [hh]
    by_cases q1 : ea = 0
    · have p1 : (ea = 0) = True := eq_true q1
      have p2 : (eb = 0) = True := eq_true (hea q1)
      by_cases q3 : ec = 0
      · have p3 : (ec = 0) = True := eq_true q3
        have p4 : (ed = 0) = True := eq_true (hec q3).1
        have p5 : (mq > md) = False := eq_false (by have := (hec q3).2; omega)
        refine ⟨?_⟩
        simp (config := { maxSteps := 4000000 }) only [↓sx0, ↓sx1, ↓sx2, ↓sx3, ↓sx4, ↓sx5, ↓sx6, sx0, sx1, sx2, sx3, sx4, sx5, sx6, tf5, ev3_hold, sxo, sxc, sxp, sxq, sxr, sxs, sxl, sxm, simprocAttr, p1, p2, p3, p4, p5]
        exact ⟨(), _, HImp.refl _ _, fun h hh => by simp [hh], fun h hh => by simp [hh]⟩
      · have p3 : (ec = 0) = False := eq_false q3
        refine ⟨?_⟩
        simp (config := { maxSteps := 4000000 }) only [↓sx0, ↓sx1, ↓sx2, ↓sx3, ↓sx4, ↓sx5, ↓sx6, sx0, sx1, sx2, sx3, sx4, sx5, sx6, tf5, ev3_hold, sxo, sxc, sxp, sxq, sxr, sxs, sxl, sxm, simprocAttr, p1, p2, p3]
        exact ⟨(), _, HImp.refl _ _, fun h hh => by simp [hh], fun h hh => by simp [hh]⟩
    · have p1 : (ea = 0) = False := eq_false q1
      by_cases q3 : ec = 0
      · have p3 : (ec = 0) = True := eq_true q3
        have p4 : (ed = 0) = True := eq_true (hec q3).1
        have p5 : (mq > md) = False := eq_false (by have := (hec q3).2; omega)
        refine ⟨?_⟩
        simp (config := { maxSteps := 4000000 }) only [↓sx0, ↓sx1, ↓sx2, ↓sx3, ↓sx4, ↓sx5, ↓sx6, sx0, sx1, sx2, sx3, sx4, sx5, sx6, tf5, ev3_hold, sxo, sxc, sxp, sxq, sxr, sxs, sxl, sxm, simprocAttr, p1, p3, p4, p5]
        exact ⟨(), _, HImp.refl _ _, fun h hh => by simp [hh], fun h hh => by simp [hh]⟩
      · have p3 : (ec = 0) = False := eq_false q3
        refine ⟨?_⟩
        simp (config := { maxSteps := 4000000 }) only [↓sx0, ↓sx1, ↓sx2, ↓sx3, ↓sx4, ↓sx5, ↓sx6, sx0, sx1, sx2, sx3, sx4, sx5, sx6, tf5, ev3_hold, sxo, sxc, sxp, sxq, sxr, sxs, sxl, sxm, simprocAttr, p1, p3]
        exact ⟨(), _, HImp.refl _ _, fun h hh => by simp [hh], fun h hh => by simp [hh]⟩
  rintro _ H3 g3 ⟨hM1, hM2⟩
  refine ⟨?_⟩
  simp (config := { maxSteps := 4000000 }) only [↓sx0, ↓sx1, ↓sx2, ↓sx3, ↓sx4, ↓sx5, ↓sx6, sx0, sx1, sx2, sx3, sx4, sx5, sx6, tf5, ev3_hold, sxo, sxc, sxp, sxq, sxr, sxs, sxl, sxm, simprocAttr]
  refine loop_constH _ (HImp.refl _ _) [(6, 6), (25, 25), (189, 201)] (fun n : Nat => [(25, I n)]) (fun n H5 => n ≤ LA.length ∧ (∀ h ∈ N20, h ∈ H5) ∧ ∀ h ∈ N21, h ∈ H5) (fun n => LA.length - n) 0 ?_ ⟨Nat.zero_le _, fun h hh => by simp [hM1 h hh], fun h hh => by simp [hM2 h hh]⟩ ?_
  · simp (config := { maxSteps := 4000000 }) only [↓sx0, ↓sx1, ↓sx2, ↓sx3, ↓sx4, ↓sx5, ↓sx6, sx0, sx1, sx2, sx3, sx4, sx5, sx6, tf5, ev3_hold, sxo, sxc, sxp, sxq, sxr, sxs, sxl, sxm, simprocAttr]
    try simp
  rintro n H5 g5 ⟨hn, hL1, hL2⟩
  by_cases hnn : n = LA.length
  · have q7 : ((n : Int) < (LA.length : Int)) = False := eq_false (by omega)
    refine ⟨?_⟩
    simp (config := { maxSteps := 4000000 }) only [↓sx0, ↓sx1, ↓sx2, ↓sx3, ↓sx4, ↓sx5, ↓sx6, sx0, sx1, sx2, sx3, sx4, sx5, sx6, tf5, ev3_hold, sxo, sxc, sxp, sxq, sxr, sxs, sxl, sxm, simprocAttr, q7, dn]
    refine CallOb.pureH (fun w' hp => hlv _ w' hp) ?_
    rintro q NN rfl
    refine ⟨?_⟩
    simp (config := { maxSteps := 4000000 }) only [↓sx0, ↓sx1, ↓sx2, ↓sx3, ↓sx4, ↓sx5, ↓sx6, sx0, sx1, sx2, sx3, sx4, sx5, sx6, tf5, ev3_hold, sxo, sxc, sxp, sxq, sxr, sxs, sxl, sxm, simprocAttr]
  have q7 : ((n : Int) < (LA.length : Int)) = True := eq_true (by omega)
  have q8 : wr (n + 1) = ((n + 1 : Nat) : Int) := (wrap_id (by omega)).trans (by omega)
  obtain ⟨s, hsn⟩ : ∃ s, LA[n]? = some s := ⟨_, List.getElem?_eq_getElem (by omega)⟩
  have hsm : (s ∈ LB) = True := eq_true (hsz s (List.mem_of_getElem? hsn))
  refine ⟨?_⟩
  simp (config := { maxSteps := 4000000 }) only [↓sx0, ↓sx1, ↓sx2, ↓sx3, ↓sx4, ↓sx5, ↓sx6, sx0, sx1, sx2, sx3, sx4, sx5, sx6, tf5, ev3_hold, sxo, sxc, sxp, sxq, sxr, sxs, sxl, sxm, simprocAttr, q7]
  refine amid (at_1 (hG1.rdv i1_len (fun h hh => by simp [hL1 h hh])) i1_len hsn rfl fun ad3 => ?_)
  simp (config := { maxSteps := 4000000 }) only [↓sx0, ↓sx1, ↓sx2, ↓sx3, ↓sx4, ↓sx5, ↓sx6, sx0, sx1, sx2, sx3, sx4, sx5, sx6, tf5, ev3_hold, sxo, sxc, sxp, sxq, sxr, sxs, sxl, sxm, simprocAttr, dn]
  refine CallOb.pureH (fun w' hp => contains_fn w' _ LB s (hG2.hp (fun h hh => by simp [hL2 h hh]) hp) (by omega)) ?_
  rintro q N14 rfl
  refine ⟨?_⟩
  simp (config := { maxSteps := 4000000 }) only [↓sx0, ↓sx1, ↓sx2, ↓sx3, ↓sx4, ↓sx5, ↓sx6, sx0, sx1, sx2, sx3, sx4, sx5, sx6, tf5, ev3_hold, sxo, sxc, sxp, sxq, sxr, sxs, sxl, sxm, simprocAttr, hsm, q8]
  exact ⟨n + 1, _, rfl, HImp.refl _ _, ⟨by omega, fun h hh => by simp [hL1 h hh], fun h hh => by simp [hL2 h hh]⟩, by omega⟩
end Go.Proofs.YtpmodggfogahhaaGreatDoor
