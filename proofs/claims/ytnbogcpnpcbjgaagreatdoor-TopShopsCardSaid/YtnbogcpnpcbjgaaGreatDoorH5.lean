/- Parts of a proof: the symbolic walk and what it shows of single functions. -/
import Derived.Test.YtnbogcpnpcbjgaaGreatDoorH4
import Derived.Test.YtnbogcpnpcbjgaaGreatDoorF8
import Derived.Test.YtnbogcpnpcbjgaaGreatDoorC5
set_option linter.all false
namespace Go.Proofs.YtnbogcpnpcbjgaaGreatDoor
open Go.RowKit Go.SX
set_option maxRecDepth 20000
set_option maxHeartbeats 0
set_option linter.unusedSimpArgs false
set_option linter.unusedVariables false
theorem equal_fn (w : World) (v v' : Value) (l m : List Int) (hs : Sl w v 1 (ints l)) (hs' : Sl w v' 1 (ints m)) (hb : l.length ≤ 1099511627776) : SX.Fn Tryz.prog 17 [v, v'] w (fun _ => False) fun r N => r = .bool (decide (l = m)) := by
  obtain ⟨a, n, c, rfl⟩ := hs.shape
  obtain ⟨a', n', c', rfl⟩ := hs'.shape
  have hn := hs.le i1_len (by omega)
  have hn' := hs'.le i1_len (by omega)
  subst hn hn'
  have hr := hs.rd0
  have hr' := hs'.rd0
  refine walk [] [] (det0_ok _ _) Tryz.func17 rfl Tryz.ntmps17 res17 (by kernel_rfl) no_facts ?_
  by_cases hl : l.length = m.length
  case neg =>
    have e1 : ((l.length : Int) = (m.length : Int)) = False := eq_false (by omega)
    simp (config := { maxSteps := 4000000 }) only [↓sx0, ↓sx1, ↓sx2, ↓sx3, ↓sx4, ↓sx5, ↓sx6, sx0, sx1, sx2, sx3, sx4, sx5, sx6, tf17, ev3_hold, sxo, sxc, sxp, sxq, sxr, sxs, sxl, sxm, simprocAttr, e1]
    rw [decide_eq_false fun h => hl (by rw [h])]
  have e1 : ((l.length : Int) = (m.length : Int)) = True := eq_true (by omega)
  simp (config := { maxSteps := 4000000 }) only [↓sx0, ↓sx1, ↓sx2, ↓sx3, ↓sx4, ↓sx5, ↓sx6, sx0, sx1, sx2, sx3, sx4, sx5, sx6, tf17, ev3_hold, sxo, sxc, sxp, sxq, sxr, sxs, sxl, sxm, simprocAttr, e1]
  refine loop_constH [] (HImp.nil _ _) [(4, 5), (11, 25)] (fun k : Nat => [(5, I k)]) (fun k H1 => H1 = [] ∧ k ≤ l.length ∧ (l = m ↔ l.drop k = m.drop k)) (fun k => l.length - k) 0 ?_ ⟨rfl, Nat.zero_le _, Iff.rfl⟩ ?_
  · simp (config := { maxSteps := 4000000 }) only [↓sx0, ↓sx1, ↓sx2, ↓sx3, ↓sx4, ↓sx5, ↓sx6, sx0, sx1, sx2, sx3, sx4, sx5, sx6, tf17, ev3_hold, sxo, sxc, sxp, sxq, sxr, sxs, sxl, sxm, simprocAttr]
    try simp
  rintro k H1 g ⟨rfl, hk, ht⟩
  by_cases hkn : k = l.length
  · have e7 : ((k : Int) < (l.length : Int)) = False := eq_false (by omega)
    refine ⟨?_⟩
    simp (config := { maxSteps := 4000000 }) only [↓sx0, ↓sx1, ↓sx2, ↓sx3, ↓sx4, ↓sx5, ↓sx6, sx0, sx1, sx2, sx3, sx4, sx5, sx6, tf17, ev3_hold, sxo, sxc, sxp, sxq, sxr, sxs, sxl, sxm, simprocAttr, e7]
    rw [decide_eq_true (ht.2 (by rw [List.drop_of_length_le (by omega), List.drop_of_length_le (by omega)]))]
  have e7 : ((k : Int) < (l.length : Int)) = True := eq_true (by omega)
  have e2 : wr ((k : Int) + 1) = ((k + 1 : Nat) : Int) := (wrap_id (by omega)).trans (by omega)
  have e8 : ((k : Int) < (m.length : Int)) = True := eq_true (by omega)
  have hkl : k < l.length := by omega
  have hkm : k < m.length := by omega
  rw [List.drop_eq_getElem_cons hkl, List.drop_eq_getElem_cons hkm, List.cons.injEq] at ht
  by_cases hx : l[k] = m[k]
  · have e3 : (l[k] = m[k]) = True := eq_true hx
    refine ⟨?_⟩
    simp (config := { maxSteps := 4000000 }) only [↓sx0, ↓sx1, ↓sx2, ↓sx3, ↓sx4, ↓sx5, ↓sx6, sx0, sx1, sx2, sx3, sx4, sx5, sx6, tf17, ev3_hold, sxo, sxc, sxp, sxq, sxr, sxs, sxl, sxm, simprocAttr, e7]
    refine amid (at_1 (hr _) i1_len (List.getElem?_eq_getElem hkl) rfl fun ad => ?_)
    simp (config := { maxSteps := 4000000 }) only [↓sx0, ↓sx1, ↓sx2, ↓sx3, ↓sx4, ↓sx5, ↓sx6, sx0, sx1, sx2, sx3, sx4, sx5, sx6, tf17, ev3_hold, sxo, sxc, sxp, sxq, sxr, sxs, sxl, sxm, simprocAttr, e8]
    refine amid (at_1 (hr' _) i1_len (List.getElem?_eq_getElem hkm) rfl fun ad' => ?_)
    simp (config := { maxSteps := 4000000 }) only [↓sx0, ↓sx1, ↓sx2, ↓sx3, ↓sx4, ↓sx5, ↓sx6, sx0, sx1, sx2, sx3, sx4, sx5, sx6, tf17, ev3_hold, sxo, sxc, sxp, sxq, sxr, sxs, sxl, sxm, simprocAttr, e3, e2]
    exact ⟨k + 1, _, rfl, HImp.refl _ _, ⟨rfl, by omega, by rw [ht]; simp [hx]⟩, by omega⟩
  · have e3 : (l[k] = m[k]) = False := eq_false hx
    refine ⟨?_⟩
    simp (config := { maxSteps := 4000000 }) only [↓sx0, ↓sx1, ↓sx2, ↓sx3, ↓sx4, ↓sx5, ↓sx6, sx0, sx1, sx2, sx3, sx4, sx5, sx6, tf17, ev3_hold, sxo, sxc, sxp, sxq, sxr, sxs, sxl, sxm, simprocAttr, e7]
    refine amid (at_1 (hr _) i1_len (List.getElem?_eq_getElem hkl) rfl fun ad => ?_)
    simp (config := { maxSteps := 4000000 }) only [↓sx0, ↓sx1, ↓sx2, ↓sx3, ↓sx4, ↓sx5, ↓sx6, sx0, sx1, sx2, sx3, sx4, sx5, sx6, tf17, ev3_hold, sxo, sxc, sxp, sxq, sxr, sxs, sxl, sxm, simprocAttr, e8]
    refine amid (at_1 (hr' _) i1_len (List.getElem?_eq_getElem hkm) rfl fun ad' => ?_)
    simp (config := { maxSteps := 4000000 }) only [↓sx0, ↓sx1, ↓sx2, ↓sx3, ↓sx4, ↓sx5, ↓sx6, sx0, sx1, sx2, sx3, sx4, sx5, sx6, tf17, ev3_hold, sxo, sxc, sxp, sxq, sxr, sxs, sxl, sxm, simprocAttr, e3]
    rw [decide_eq_false]
    rw [ht]
    exact fun h => hx h.1
theorem lives_fn (w : World) (hw : Ways w) : SX.Fn Tryz.prog 12 [] w (fun _ => False) fun q N => q = .bool true := by
  have dn : ∀ (g : Nat) (xs : List Value), det0 g xs = none := fun _ _ => rfl
  have hsD : exD.small := ⟨exC_small, by decide⟩
  refine walk [] [] (det0_ok _ _) Tryz.func12 rfl Tryz.ntmps12 res12 (by kernel_rfl) no_facts ?_
  simp (config := { maxSteps := 4000000 }) only [↓sx0, ↓sx1, ↓sx2, ↓sx3, ↓sx4, ↓sx5, ↓sx6, sx0, sx1, sx2, sx3, sx4, sx5, sx6, tf12, ev3_hold, sxo, sxc, sxp, sxq, sxr, sxs, sxl, sxm, simprocAttr, dn]
  refine CallOb.pureH (fun w' hp => example3_fn w') ?_
  rintro q N ⟨b1, b2, b3, b4, rfl, h1, h2, h3, h4⟩
  have hD : ∀ (H : List HO) (w' : World), (∀ h ∈ N, h ∈ H) → Hp ⟨w, fun _ => False⟩ H w' → DsOk w' (exV b1 b2 b3 b4) exD := fun H w' hm hp =>
    ⟨_, _, _, _, rfl, ⟨_, _, _, rfl, row_hp (hm _ h1) hp, row_hp (hm _ h2) hp, row_hp (hm _ h3) hp⟩, row_hp (hm _ h4) hp⟩
  have hCh : ∀ (H : List HO) (w' : World), (∀ h ∈ N, h ∈ H) → Hp ⟨w, fun _ => False⟩ H w' → ChOk w' (.agg #[I 4, I 3, .slice (some ⟨b1, 0, none⟩) 12 12, .slice (some ⟨b2, 0, none⟩) 5 5, .slice (some ⟨b3, 0, none⟩) 5 5]) exC := fun H w' hm hp =>
    ⟨_, _, _, rfl, row_hp (hm _ h1) hp, row_hp (hm _ h2) hp, row_hp (hm _ h3) hp⟩
  have h4 : dst exC.W exC.H 0 11 = 4 := by
    rw [show exC.W = 4 from rfl, show exC.H = 3 from rfl, ex_dst (by decide) (by decide)]
    decide
  have hap := fun (H : List HO) (hm : ∀ h ∈ N, h ∈ H) w' (hp : Hp ⟨w, fun _ => False⟩ H w') => apart_at w' (hw.hp hp) _ exC (hCh H w' hm hp) exC_small exC_ok 0 11 (by decide) (by decide)
  simp only [h4] at hap
  have hco := fun (H : List HO) (hm : ∀ h ∈ N, h ∈ H) w' (hp : Hp ⟨w, fun _ => False⟩ H w') => course_fn w' (hw.hp hp) _ exD (hD H w' hm hp) hsD
  unfold CourseP at hco
  simp only [exD_E, exD_least, if_true, exD_first, and_self] at hco
  unfold exV at hD hco ⊢
  unfold rpv
  refine ⟨?_⟩
  simp (config := { maxSteps := 4000000 }) only [↓sx0, ↓sx1, ↓sx2, ↓sx3, ↓sx4, ↓sx5, ↓sx6, sx0, sx1, sx2, sx3, sx4, sx5, sx6, tf12, ev3_hold, sxo, sxc, sxp, sxq, sxr, sxs, sxl, sxm, simprocAttr, dn]
  refine CallOb.pureH (fun w' hp => hco _ (fun h hh => by simpa using hh) w' hp) ?_
  rintro q N2 ⟨x, rfl, hG⟩
  obtain ⟨ax, cx, rfl⟩ := hG.shape
  obtain ⟨K, hK⟩ : ∃ K, N2 ++ N = K := ⟨_, rfl⟩
  have hNK : ∀ h ∈ N, h ∈ K := fun h hh => by rw [← hK]; simp [hh]
  have hGK := hG.mono (N' := K) (fun h hh => by rw [← hK]; simp [hh])
  rw [hK]
  refine ⟨?_⟩
  simp (config := { maxSteps := 4000000 }) only [↓sx0, ↓sx1, ↓sx2, ↓sx3, ↓sx4, ↓sx5, ↓sx6, sx0, sx1, sx2, sx3, sx4, sx5, sx6, tf12, ev3_hold, sxo, sxc, sxp, sxq, sxr, sxs, sxl, sxm, simprocAttr, dn]
  refine CallOb.pureH (fun w' hp => example2_fn w') ?_
  rintro q N3 ⟨d1, d2, d3, d4, d5, d6, d7, ad, cd, rfl, hX⟩
  have hst : ∀ (H : List HO) w', (∀ x ∈ N3, x ∈ H) → Hp ⟨w, fun _ => False⟩ H w' → SX.Fn Tryz.prog 39 [dfv exDrf (.slice (some ⟨d1, 0, none⟩) 12 12) (.slice (some ⟨d2, 0, none⟩) 5 5) (.slice (some ⟨d3, 0, none⟩) 5 5) (.slice (some ⟨d4, 0, none⟩) 12 12) (.slice (some ⟨d5, 0, none⟩) 2 2) (.slice ad 4 cd), I 4, I 0, I 4] w' (fun _ => False) (StpP [-1, 4, 5, 9, 10]) := fun H w' hm hp => by
    have := drift_step_fn w' (hw.hp hp) exDrf _ _ _ _ _ _ (hX.ok hm hp) exDrf_ok 4 0 4 (by decide) (by decide) (by decide) 0 rfl _ rfl exEast exWind rfl rfl 10 14 rfl
    rw [exStp] at this
    exact this
  unfold StpP at hst
  unfold dfv at hst ⊢
  refine ⟨?_⟩
  simp (config := { maxSteps := 4000000 }) only [↓sx0, ↓sx1, ↓sx2, ↓sx3, ↓sx4, ↓sx5, ↓sx6, sx0, sx1, sx2, sx3, sx4, sx5, sx6, tf12, ev3_hold, sxo, sxc, sxp, sxq, sxr, sxs, sxl, sxm, simprocAttr, dn]
  refine CallOb.pureH (fun w' hp => hst _ w' (fun h hh => by simp [hh]) hp) ?_
  rintro q N4 ⟨a8, c8, rfl, hr⟩
  have hr := hr.resolve_right (by decide)
  rw [show ([-1, 4, 5, 9, 10] : List Int).length = 5 from rfl] at hr ⊢
  refine ⟨?_⟩
  simp (config := { maxSteps := 4000000 }) only [↓sx0, ↓sx1, ↓sx2, ↓sx3, ↓sx4, ↓sx5, ↓sx6, sx0, sx1, sx2, sx3, sx4, sx5, sx6, tf12, ev3_hold, sxo, sxc, sxp, sxq, sxr, sxs, sxl, sxm, simprocAttr, dn]
  refine CallOb.pureH (fun w' hp => hap _ (fun h hh => by simp [hNK h hh]) w' hp) ?_
  rintro q N5 rfl
  have z0 : ((0 : Int) = 0) = True := eq_true rfl
  have z4 : ((4 : Int) = 4) = True := eq_true rfl
  refine ⟨?_⟩
  simp (config := { maxSteps := 4000000 }) only [↓sx0, ↓sx1, ↓sx2, ↓sx3, ↓sx4, ↓sx5, ↓sx6, sx0, sx1, sx2, sx3, sx4, sx5, sx6, tf12, ev3_hold, sxo, sxc, sxp, sxq, sxr, sxs, sxl, sxm, simprocAttr, dn, z0, z4]
  intro b7
  refine CallOb.pureH (fun w' hp => equal_fn w' _ _ (zs [1, 5, 9, 4, 0]) [1, 5, 9, 4, 0] (hGK.hp (fun h hh => by simp [hh]) hp) (row_hp (E := 3) List.mem_cons_self hp) (by decide)) ?_
  rintro q N6 rfl
  rw [show decide (zs [1, 5, 9, 4, 0] = [1, 5, 9, 4, 0]) = true by decide]
  refine ⟨?_⟩
  simp (config := { maxSteps := 4000000 }) only [↓sx0, ↓sx1, ↓sx2, ↓sx3, ↓sx4, ↓sx5, ↓sx6, sx0, sx1, sx2, sx3, sx4, sx5, sx6, tf12, ev3_hold, sxo, sxc, sxp, sxq, sxr, sxs, sxl, sxm, simprocAttr, dn]
  intro b8
  refine CallOb.pureH (fun w' hp => equal_fn w' _ _ [-1, 4, 5, 9, 10] [-1, 4, 5, 9, 10] (row_hp (E := 3) (by simp [hr]) hp) (row_hp (E := 3) List.mem_cons_self hp) (by decide)) ?_
  rintro q N7 rfl
  rw [show decide (([-1, 4, 5, 9, 10] : List Int) = [-1, 4, 5, 9, 10]) = true by decide]
  refine ⟨?_⟩
  simp (config := { maxSteps := 4000000 }) only [↓sx0, ↓sx1, ↓sx2, ↓sx3, ↓sx4, ↓sx5, ↓sx6, sx0, sx1, sx2, sx3, sx4, sx5, sx6, tf12, ev3_hold, sxo, sxc, sxp, sxq, sxr, sxs, sxl, sxm, simprocAttr, z4]
  try rfl
end Go.Proofs.YtnbogcpnpcbjgaaGreatDoor

