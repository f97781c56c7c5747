/- A part of a proof: the symbolic walk and what it shows of single functions. -/
import Derived.Test.YtaloedccoadedaaDoorG4
set_option linter.all false
namespace Go.Proofs.YtaloedccoadedaaDoor
open Go.RowKit Go.SX
set_option maxRecDepth 20000
set_option maxHeartbeats 0
set_option linter.unusedSimpArgs false
set_option linter.unusedVariables false
theorem DoubtP.got {d : Dis} (hs : d.small) : ∃ (n e : Int) (L : List Int), L.length ≤ 100000 ∧ ∀ q N, DoubtP d q N → ∃ x, q = .tuple #[I n, x, I e] ∧ Got x 3 1 i1 L N := by
  refine ⟨_, _, _, ?_, fun q N h => h⟩
  split
  · rename_i h
    exact first_len (Dis.pDbt_ok h.1) h.1 hs h.2
  · exact Nat.zero_le _
theorem WithinP.got {d : Dis} (hs : d.small) (t m : Int) : ∃ (e : Int) (L : List Int), L.length ≤ 100000 ∧ ∀ q N, WithinP d t m q N → ∃ x, q = .tuple #[x, I e] ∧ Got x 3 1 i1 L N := by
  refine ⟨_, _, ?_, fun q N h => h⟩
  split
  · rw [zs_len]
    unfold Dis.wthL
    have := chpL_len d.c.depth.length ((d.crs d.pDbt).thr t.toNat) m
    have := hs.1.1
    omega
  · exact Nat.zero_le _
theorem fixesDoubts_fn (w : World) (hw : Ways w) (hb : Deb w) (v : Value) (d : Dis) (hd : DsOk w v d) (t m : Int) : SX.Fn Tryd.prog 5 [v, I t, I m] w (fun _ => False) fun q N => q = .bool true := by
  have hd0 := hd
  have hwk := fun (H : List HO) w' (hp : Hp ⟨w, fun _ => False⟩ H w') => works3_fn w' (hw.hp hp) (hb.hp hp)
  have hva := fun (H : List HO) w' (hp : Hp ⟨w, fun _ => False⟩ H w') => vague_fn w' (hw.hp hp) v d (hd0.hp hp)
  have hcp := fun (hf : d.few) (H : List HO) w' (hp : Hp ⟨w, fun _ => False⟩ H w') => copy3_fn w' v d (hd0.hp hp) hf
  have hsa : ∀ (w' : World) (u v : Value) (l : List Int), l.length ≤ 100000 → Sl w' u 1 (ints l) → Sl w' v 1 (ints l) → SX.Fn Tryd.prog 24 [u, v] w' (fun _ => False) fun r N => r = .bool true := fun w' u v l hl h h' => by
    have := same3_fn w' u v l l h h' (by omega)
    rw [decide_eq_true rfl] at this
    exact this
  have hW2 : ∀ (H : List HO) (w' : World), Hp ⟨w, fun _ => False⟩ H w' → Ways w' := fun H w' hp => hw.hp hp
  have hB2 : ∀ (H : List HO) (w' : World), Hp ⟨w, fun _ => False⟩ H w' → Deb w' := fun H w' hp => hb.hp hp
  have hD2 : ∀ (H : List HO) (w' : World), Hp ⟨w, fun _ => False⟩ H w' → DsOk w' v d := fun H w' hp => hd0.hp hp
  obtain ⟨sD, sT, sS, sR, rfl, hc, hsR⟩ := hd
  have dn : ∀ (g : Nat) (xs : List Value), det0 g xs = none := fun _ _ => rfl
  refine walk [] [] (det0_ok _ _) Tryd.func5 rfl Tryd.ntmps5 res5 (by kernel_rfl) no_facts ?_
  simp (config := { maxSteps := 4000000 }) only [↓sx0, ↓sx1, ↓sx2, ↓sx3, ↓sx4, ↓sx5, ↓sx6, sx0, sx1, sx2, sx3, sx4, sx5, sx6, tf5, ev3_hold, sxo, sxc, sxp, sxq, sxr, sxs, sxl, sxm, simprocAttr, dn]
  refine CallOb.pureH (fun w' hp => hva _ w' hp) ?_
  rintro q N ⟨b, rfl, hb1⟩
  cases b with
  | true =>
    refine ⟨?_⟩
    simp (config := { maxSteps := 4000000 }) only [↓sx0, ↓sx1, ↓sx2, ↓sx3, ↓sx4, ↓sx5, ↓sx6, sx0, sx1, sx2, sx3, sx4, sx5, sx6, tf5, ev3_hold, sxo, sxc, sxp, sxq, sxr, sxs, sxl, sxm, simprocAttr, dn]
    refine CallOb.pureH (fun w' hp => hwk _ w' hp) ?_
    rintro q N2 rfl
    refine ⟨?_⟩
    simp (config := { maxSteps := 4000000 }) only [↓sx0, ↓sx1, ↓sx2, ↓sx3, ↓sx4, ↓sx5, ↓sx6, sx0, sx1, sx2, sx3, sx4, sx5, sx6, tf5, ev3_hold, sxo, sxc, sxp, sxq, sxr, sxs, sxl, sxm, simprocAttr]
  | false =>
  have hfew := hb1 rfl
  have hsm := hfew.small
  refine ⟨?_⟩
  simp (config := { maxSteps := 4000000 }) only [↓sx0, ↓sx1, ↓sx2, ↓sx3, ↓sx4, ↓sx5, ↓sx6, sx0, sx1, sx2, sx3, sx4, sx5, sx6, tf5, ev3_hold, sxo, sxc, sxp, sxq, sxr, sxs, sxl, sxm, simprocAttr, dn]
  refine CallOb.pureH (fun w' hp => hcp hfew _ w' hp) ?_
  intro q N2 hDN
  have hDN0 := hDN
  obtain ⟨sx, sy, sz, su, rfl, hx1, hx2, hx3, ua, uc, rfl, _, _⟩ := hDN
  obtain ⟨xa, xc, rfl⟩ := hx1.shape
  obtain ⟨ya, yc, rfl⟩ := hx2.shape
  obtain ⟨za, zc, rfl⟩ := hx3.shape
  obtain ⟨K, hK⟩ : ∃ K, N2 ++ N = K := ⟨_, rfl⟩
  have hDo : ∀ (H : List HO) w', (∀ h ∈ K, h ∈ H) → Hp ⟨w, fun _ => False⟩ H w' → DsOk w' _ d := fun H w' hm hp => hDN0.ok (fun h hh => hm h (by rw [← hK]; simp [hh])) hp
  have z0 : (d.E = d.E) = True := eq_true rfl
  obtain ⟨n1, e1, L1, hl1, hP1⟩ := DoubtP.got hsm
  obtain ⟨e2, L2, hl2, hP2⟩ := WithinP.got hsm t m
  have z1 : (e1 = e1) = True := eq_true rfl
  have z2 : (e2 = e2) = True := eq_true rfl
  have z3 : (n1 = n1) = True := eq_true rfl
  rw [hK]
  refine ⟨?_⟩
  simp (config := { maxSteps := 4000000 }) only [↓sx0, ↓sx1, ↓sx2, ↓sx3, ↓sx4, ↓sx5, ↓sx6, sx0, sx1, sx2, sx3, sx4, sx5, sx6, tf5, ev3_hold, sxo, sxc, sxp, sxq, sxr, sxs, sxl, sxm, simprocAttr, dn]
  refine CallOb.pureH (fun w' hp => doubt3_fn w' (hW2 _ w' hp) _ d (hDo _ w' (fun h hh => hh) hp) hsm) ?_
  intro q N3 hq
  obtain ⟨x1, rfl, hG1⟩ := hP1 q N3 hq
  refine ⟨?_⟩
  simp (config := { maxSteps := 4000000 }) only [↓sx0, ↓sx1, ↓sx2, ↓sx3, ↓sx4, ↓sx5, ↓sx6, sx0, sx1, sx2, sx3, sx4, sx5, sx6, tf5, ev3_hold, sxo, sxc, sxp, sxq, sxr, sxs, sxl, sxm, simprocAttr, dn]
  refine CallOb.pureH (fun w' hp => rdoubt_fn w' (hW2 _ w' hp) _ d (hD2 _ w' hp) hsm) ?_
  intro q N4 hq
  obtain ⟨x2, rfl, hG2⟩ := hP1 q N4 hq
  refine ⟨?_⟩
  simp (config := { maxSteps := 4000000 }) only [↓sx0, ↓sx1, ↓sx2, ↓sx3, ↓sx4, ↓sx5, ↓sx6, sx0, sx1, sx2, sx3, sx4, sx5, sx6, tf5, ev3_hold, sxo, sxc, sxp, sxq, sxr, sxs, sxl, sxm, simprocAttr, dn]
  refine CallOb.pureH (fun w' hp => within4_fn w' (hW2 _ w' hp) _ d (hDo _ w' (by simp +contextual) hp) hsm t m) ?_
  intro q N5 hq
  obtain ⟨x3, rfl, hG3⟩ := hP2 q N5 hq
  refine ⟨?_⟩
  simp (config := { maxSteps := 4000000 }) only [↓sx0, ↓sx1, ↓sx2, ↓sx3, ↓sx4, ↓sx5, ↓sx6, sx0, sx1, sx2, sx3, sx4, sx5, sx6, tf5, ev3_hold, sxo, sxc, sxp, sxq, sxr, sxs, sxl, sxm, simprocAttr, dn]
  refine CallOb.pureH (fun w' hp => rwithin_fn w' (hW2 _ w' hp) _ d (hD2 _ w' hp) hsm t m) ?_
  intro q N6 hq
  obtain ⟨x4, rfl, hG4⟩ := hP2 q N6 hq
  refine ⟨?_⟩
  simp (config := { maxSteps := 4000000 }) only [↓sx0, ↓sx1, ↓sx2, ↓sx3, ↓sx4, ↓sx5, ↓sx6, sx0, sx1, sx2, sx3, sx4, sx5, sx6, tf5, ev3_hold, sxo, sxc, sxp, sxq, sxr, sxs, sxl, sxm, simprocAttr, dn, z3]
  refine CallOb.pureH (fun w' hp => hsa w' _ _ L1 hl1 (hG1.hp (by simp +contextual) hp) (hG2.hp (by simp +contextual) hp)) ?_
  rintro q N9 rfl
  refine ⟨?_⟩
  simp (config := { maxSteps := 4000000 }) only [↓sx0, ↓sx1, ↓sx2, ↓sx3, ↓sx4, ↓sx5, ↓sx6, sx0, sx1, sx2, sx3, sx4, sx5, sx6, tf5, ev3_hold, sxo, sxc, sxp, sxq, sxr, sxs, sxl, sxm, simprocAttr, dn, z1]
  refine CallOb.pureH (fun w' hp => hsa w' _ _ L2 hl2 (hG3.hp (by simp +contextual) hp) (hG4.hp (by simp +contextual) hp)) ?_
  rintro q N10 rfl
  refine ⟨?_⟩
  simp (config := { maxSteps := 4000000 }) only [↓sx0, ↓sx1, ↓sx2, ↓sx3, ↓sx4, ↓sx5, ↓sx6, sx0, sx1, sx2, sx3, sx4, sx5, sx6, tf5, ev3_hold, sxo, sxc, sxp, sxq, sxr, sxs, sxl, sxm, simprocAttr, dn, z2]
  refine CallOb.pureH (fun w' hp => hwk _ w' hp) ?_
  rintro q N11 rfl
  refine ⟨?_⟩
  simp (config := { maxSteps := 4000000 }) only [↓sx0, ↓sx1, ↓sx2, ↓sx3, ↓sx4, ↓sx5, ↓sx6, sx0, sx1, sx2, sx3, sx4, sx5, sx6, tf5, ev3_hold, sxo, sxc, sxp, sxq, sxr, sxs, sxl, sxm, simprocAttr]
end Go.Proofs.YtaloedccoadedaaDoor
