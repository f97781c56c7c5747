/- A part of a proof: the symbolic walk and what it shows of single functions. -/
import Derived.Test.YtaloedccoadedaaDoorG3
import Derived.Test.YtaloedccoadedaaDoorF8
set_option linter.all false
namespace Go.Proofs.YtaloedccoadedaaDoor
open Go.RowKit Go.SX
set_option maxRecDepth 20000
set_option maxHeartbeats 0
set_option linter.unusedSimpArgs false
set_option linter.unusedVariables false
theorem SrcP.got {d : Dis} (hs : d.small) : ∃ (e : Int) (L : List Int), L.length ≤ 100000 ∧ ∀ q N, SrcP d q N → ∃ x, q = .tuple #[x, I e] ∧ Got x 3 1 i1 L N := by
  by_cases hE : d.E = 0
  · cases h : srcL d.canB d.rs.length with
    | none =>
      refine ⟨3, [], Nat.zero_le _, fun q N hq => ?_⟩
      rcases hq with ⟨h1, _⟩ | ⟨_, ⟨_, rfl⟩ | ⟨l, x, h1, _⟩⟩
      · exact absurd hE h1
      · exact ⟨_, rfl, Got.nil _⟩
      · rw [h] at h1
        cases h1
    | some y =>
      have hl := (src_ok h)
      refine ⟨0, zs y, ?_, fun q N hq => ?_⟩
      · obtain ⟨_, _, h2, _⟩ := hl
        have := hs.2
        rw [zs_len]
        omega
      rcases hq with ⟨h1, _⟩ | ⟨_, ⟨h1, _⟩ | ⟨l, x, h1, rfl, h2⟩⟩
      · exact absurd hE h1
      · rw [h] at h1
        cases h1
      · rw [h] at h1
        injection h1 with h1
        subst h1
        exact ⟨_, rfl, h2⟩
  · refine ⟨d.E, [], Nat.zero_le _, fun q N h => ?_⟩
    rcases h with ⟨_, rfl⟩ | ⟨h3, _⟩
    · exact ⟨_, rfl, Got.nil _⟩
    · exact absurd h3 hE
theorem fixesSources_fn (w : World) (hw : Ways w) (hb : Deb w) (v : Value) (d : Dis) (hd : DsOk w v d) : SX.Fn Tryd.prog 9 [v] w (fun _ => False) fun q N => q = .bool true := by
  have hd0 := hd
  have hwk := fun (H : List HO) w' (hp : Hp ⟨w, fun _ => False⟩ H w') => works3_fn w' (hw.hp hp) (hb.hp hp)
  have hva := fun (H : List HO) w' (hp : Hp ⟨w, fun _ => False⟩ H w') => vague_fn w' (hw.hp hp) v d (hd0.hp hp)
  have hcp := fun (hf : d.few) (H : List HO) w' (hp : Hp ⟨w, fun _ => False⟩ H w') => copy3_fn w' v d (hd0.hp hp) hf
  have hsa : ∀ (w' : World) (u v : Value) (l : List Int), l.length ≤ 100000 → Sl w' u 1 (ints l) → Sl w' v 1 (ints l) → SX.Fn Tryd.prog 24 [u, v] w' (fun _ => False) fun r N => r = .bool true := fun w' u v l hl h h' => by
    have := same3_fn w' u v l l h h' (by omega)
    rw [decide_eq_true rfl] at this
    exact this
  have hW2 : ∀ (H : List HO) (w' : World), Hp ⟨w, fun _ => False⟩ H w' → Ways w' := fun H w' hp => hw.hp hp
  have hB2 : ∀ (H : List HO) (w' : World), Hp ⟨w, fun _ => False⟩ H w' → Deb w' := fun H w' hp => hb.hp hp
  have hD2 : ∀ (H : List HO) (w' : World), Hp ⟨w, fun _ => False⟩ H w' → DsOk w' v d := fun H w' hp => hd0.hp hp
  obtain ⟨sD, sT, sS, sR, rfl, hc, hsR⟩ := hd
  have dn : ∀ (g : Nat) (xs : List Value), det0 g xs = none := fun _ _ => rfl
  refine walk [] [] (det0_ok _ _) Tryd.func9 rfl Tryd.ntmps9 res9 (by kernel_rfl) no_facts ?_
  simp (config := { maxSteps := 4000000 }) only [↓sx0, ↓sx1, ↓sx2, ↓sx3, ↓sx4, ↓sx5, ↓sx6, sx0, sx1, sx2, sx3, sx4, sx5, sx6, tf9, ev3_hold, sxo, sxc, sxp, sxq, sxr, sxs, sxl, sxm, simprocAttr, dn]
  refine CallOb.pureH (fun w' hp => hva _ w' hp) ?_
  rintro q N ⟨b, rfl, hb1⟩
  cases b with
  | true =>
    refine ⟨?_⟩
    simp (config := { maxSteps := 4000000 }) only [↓sx0, ↓sx1, ↓sx2, ↓sx3, ↓sx4, ↓sx5, ↓sx6, sx0, sx1, sx2, sx3, sx4, sx5, sx6, tf9, ev3_hold, sxo, sxc, sxp, sxq, sxr, sxs, sxl, sxm, simprocAttr, dn]
    refine CallOb.pureH (fun w' hp => hwk _ w' hp) ?_
    rintro q N2 rfl
    refine ⟨?_⟩
    simp (config := { maxSteps := 4000000 }) only [↓sx0, ↓sx1, ↓sx2, ↓sx3, ↓sx4, ↓sx5, ↓sx6, sx0, sx1, sx2, sx3, sx4, sx5, sx6, tf9, ev3_hold, sxo, sxc, sxp, sxq, sxr, sxs, sxl, sxm, simprocAttr]
  | false =>
  have hfew := hb1 rfl
  have hsm := hfew.small
  refine ⟨?_⟩
  simp (config := { maxSteps := 4000000 }) only [↓sx0, ↓sx1, ↓sx2, ↓sx3, ↓sx4, ↓sx5, ↓sx6, sx0, sx1, sx2, sx3, sx4, sx5, sx6, tf9, ev3_hold, sxo, sxc, sxp, sxq, sxr, sxs, sxl, sxm, simprocAttr, dn]
  refine CallOb.pureH (fun w' hp => hcp hfew _ w' hp) ?_
  intro q N2 hDN
  have hDN0 := hDN
  obtain ⟨sx, sy, sz, su, rfl, hx1, hx2, hx3, ua, uc, rfl, _, _⟩ := hDN
  obtain ⟨xa, xc, rfl⟩ := hx1.shape
  obtain ⟨ya, yc, rfl⟩ := hx2.shape
  obtain ⟨za, zc, rfl⟩ := hx3.shape
  obtain ⟨K, hK⟩ : ∃ K, N2 ++ N = K := ⟨_, rfl⟩
  have hDo : ∀ (H : List HO) w', (∀ h ∈ K, h ∈ H) → Hp ⟨w, fun _ => False⟩ H w' → DsOk w' _ d := fun H w' hm hp => hDN0.ok (fun h hh => hm h (by rw [← hK]; simp [hh])) hp
  have z0 : (d.E = d.E) = True := eq_true rfl
  have h10 : d.E = 0 → d.rs.length ≤ 10 := fun hE => by
    have := (hfew.2.2 hE).2.2
    omega
  obtain ⟨e1, L1, hl1, hP1⟩ := SrcP.got hsm
  have z1 : (e1 = e1) = True := eq_true rfl
  rw [hK]
  refine ⟨?_⟩
  simp (config := { maxSteps := 4000000 }) only [↓sx0, ↓sx1, ↓sx2, ↓sx3, ↓sx4, ↓sx5, ↓sx6, sx0, sx1, sx2, sx3, sx4, sx5, sx6, tf9, ev3_hold, sxo, sxc, sxp, sxq, sxr, sxs, sxl, sxm, simprocAttr, dn]
  refine CallOb.pureH (fun w' hp => sources_fn w' (hW2 _ w' hp) _ d (hDo _ w' (fun h hh => hh) hp) hsm h10) ?_
  intro q N3 hq
  obtain ⟨x1, rfl, hG1⟩ := hP1 q N3 hq
  refine ⟨?_⟩
  simp (config := { maxSteps := 4000000 }) only [↓sx0, ↓sx1, ↓sx2, ↓sx3, ↓sx4, ↓sx5, ↓sx6, sx0, sx1, sx2, sx3, sx4, sx5, sx6, tf9, ev3_hold, sxo, sxc, sxp, sxq, sxr, sxs, sxl, sxm, simprocAttr, dn]
  refine CallOb.pureH (fun w' hp => rsources_fn w' (hW2 _ w' hp) _ d (hD2 _ w' hp) hsm) ?_
  intro q N4 hq
  obtain ⟨x2, rfl, hG2⟩ := hP1 q N4 hq
  refine ⟨?_⟩
  simp (config := { maxSteps := 4000000 }) only [↓sx0, ↓sx1, ↓sx2, ↓sx3, ↓sx4, ↓sx5, ↓sx6, sx0, sx1, sx2, sx3, sx4, sx5, sx6, tf9, ev3_hold, sxo, sxc, sxp, sxq, sxr, sxs, sxl, sxm, simprocAttr, dn]
  refine CallOb.pureH (fun w' hp => hsa w' _ _ L1 hl1 (hG1.hp (by simp +contextual) hp) (hG2.hp (by simp +contextual) hp)) ?_
  rintro q N9 rfl
  refine ⟨?_⟩
  simp (config := { maxSteps := 4000000 }) only [↓sx0, ↓sx1, ↓sx2, ↓sx3, ↓sx4, ↓sx5, ↓sx6, sx0, sx1, sx2, sx3, sx4, sx5, sx6, tf9, ev3_hold, sxo, sxc, sxp, sxq, sxr, sxs, sxl, sxm, simprocAttr, dn, z1]
  refine CallOb.pureH (fun w' hp => hwk _ w' hp) ?_
  rintro q N11 rfl
  refine ⟨?_⟩
  simp (config := { maxSteps := 4000000 }) only [↓sx0, ↓sx1, ↓sx2, ↓sx3, ↓sx4, ↓sx5, ↓sx6, sx0, sx1, sx2, sx3, sx4, sx5, sx6, tf9, ev3_hold, sxo, sxc, sxp, sxq, sxr, sxs, sxl, sxm, simprocAttr]
end Go.Proofs.YtaloedccoadedaaDoor
