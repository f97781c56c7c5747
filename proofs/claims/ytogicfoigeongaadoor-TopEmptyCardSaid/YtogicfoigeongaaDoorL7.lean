/- Parts of a proof: the symbolic walk and what it shows of single functions. -/
import Derived.Test.YtogicfoigeongaaDoorL6
import Derived.Test.YtogicfoigeongaaDoorL3
set_option linter.all false
namespace Go.Proofs.YtogicfoigeongaaDoor
open Go.RowKit Go.SX
set_option maxRecDepth 10000
set_option maxHeartbeats 0
set_option linter.unusedSimpArgs false
set_option linter.unusedVariables false
theorem topEmpty_fn (w : World) (hw : Ways w) (v : Value) (c : Cht) (hc : ChOk w v c) (t : Trp) : SX.Fn Tryd.prog 4 [v, trv t] w (fun _ => False) fun r N => r = .bool true := by
  have dn : ∀ (g : Nat) (xs : List Value), det0 g xs = none := fun _ _ => rfl
  have hro := fun (H : List HO) w' (hp : Hp ⟨w, fun _ => False⟩ H w') => routed_fn w' (hw.hp hp)
  have hfar := fun (H : List HO) w' (hp : Hp ⟨w, fun _ => False⟩ H w') => far6_fn w' v c (hc.hp hp)
  have hck := fun (hs : c.small) (H : List HO) w' (hp : Hp ⟨w, fun _ => False⟩ H w') => check06_fn w' v c (hc.hp hp) hs
  obtain ⟨ta, tl, g, tt, tf, tg⟩ := t
  have hit := fun (hs : c.small) (hok : c.ok) (H : List HO) w' (hp : Hp ⟨w, fun _ => False⟩ H w') => isTrip_fn w' v c (hc.hp hp) hs hok ⟨ta, 0, g, tt, tf, tg⟩
  have hc0 := hc
  obtain ⟨sD, sT, sS, rfl, hsD, hsT, hsS⟩ := hc
  unfold trv at hit ⊢
  simp only [] at hit ⊢
  refine walk [] [] (det0_ok _ _) Tryd.func4 rfl Tryd.ntmps4 res4 (by kernel_rfl) no_facts ?_
  simp (config := { maxSteps := 4000000 }) only [↓sx0, ↓sx1, ↓sx2, ↓sx3, ↓sx4, ↓sx5, ↓sx6, sx0, sx1, sx2, sx3, sx4, sx5, sx6, tf4, ev3_hold, sxo, sxc, sxp, sxq, sxr, sxs, sxl, sxm, simprocAttr, dn]
  refine CallOb.pureH (fun w' hp => hfar _ w' hp) ?_
  rintro q N ⟨b, rfl, hbs⟩
  cases b with
  | true =>
    refine ⟨?_⟩
    simp (config := { maxSteps := 4000000 }) only [↓sx0, ↓sx1, ↓sx2, ↓sx3, ↓sx4, ↓sx5, ↓sx6, sx0, sx1, sx2, sx3, sx4, sx5, sx6, tf4, ev3_hold, sxo, sxc, sxp, sxq, sxr, sxs, sxl, sxm, simprocAttr, dn]
    refine CallOb.pureH (fun w' hp => hro _ w' hp) ?_
    rintro q N2 rfl
    refine ⟨?_⟩
    simp (config := { maxSteps := 4000000 }) only [↓sx0, ↓sx1, ↓sx2, ↓sx3, ↓sx4, ↓sx5, ↓sx6, sx0, sx1, sx2, sx3, sx4, sx5, sx6, tf4, ev3_hold, sxo, sxc, sxp, sxq, sxr, sxs, sxl, sxm, simprocAttr, dn]
    try rfl
  | false =>
  have hs := hbs rfl
  refine ⟨?_⟩
  simp (config := { maxSteps := 4000000 }) only [↓sx0, ↓sx1, ↓sx2, ↓sx3, ↓sx4, ↓sx5, ↓sx6, sx0, sx1, sx2, sx3, sx4, sx5, sx6, tf4, ev3_hold, sxo, sxc, sxp, sxq, sxr, sxs, sxl, sxm, simprocAttr, dn]
  refine CallOb.pureH (fun w' hp => hck hs _ w' hp) ?_
  rintro q N2 rfl
  cases ho : c.okB with
  | false =>
    refine ⟨?_⟩
    simp (config := { maxSteps := 4000000 }) only [↓sx0, ↓sx1, ↓sx2, ↓sx3, ↓sx4, ↓sx5, ↓sx6, sx0, sx1, sx2, sx3, sx4, sx5, sx6, tf4, ev3_hold, sxo, sxc, sxp, sxq, sxr, sxs, sxl, sxm, simprocAttr, dn]
    refine CallOb.pureH (fun w' hp => hro _ w' hp) ?_
    rintro q N3 rfl
    refine ⟨?_⟩
    simp (config := { maxSteps := 4000000 }) only [↓sx0, ↓sx1, ↓sx2, ↓sx3, ↓sx4, ↓sx5, ↓sx6, sx0, sx1, sx2, sx3, sx4, sx5, sx6, tf4, ev3_hold, sxo, sxc, sxp, sxq, sxr, sxs, sxl, sxm, simprocAttr, dn]
    try rfl
  | true =>
  have hok := (okB_iff c).1 ho
  refine ⟨?_⟩
  simp (config := { maxSteps := 4000000 }) only [↓sx0, ↓sx1, ↓sx2, ↓sx3, ↓sx4, ↓sx5, ↓sx6, sx0, sx1, sx2, sx3, sx4, sx5, sx6, tf4, ev3_hold, sxo, sxc, sxp, sxq, sxr, sxs, sxl, sxm, simprocAttr, dn]
  refine CallOb.pureH (fun w' hp => hit hs hok _ w' hp) ?_
  rintro q N3 ⟨b, rfl, hb⟩
  cases b with
  | false =>
    refine ⟨?_⟩
    simp (config := { maxSteps := 4000000 }) only [↓sx0, ↓sx1, ↓sx2, ↓sx3, ↓sx4, ↓sx5, ↓sx6, sx0, sx1, sx2, sx3, sx4, sx5, sx6, tf4, ev3_hold, sxo, sxc, sxp, sxq, sxr, sxs, sxl, sxm, simprocAttr, dn]
    refine CallOb.pureH (fun w' hp => hro _ w' hp) ?_
    rintro q N4 rfl
    refine ⟨?_⟩
    simp (config := { maxSteps := 4000000 }) only [↓sx0, ↓sx1, ↓sx2, ↓sx3, ↓sx4, ↓sx5, ↓sx6, sx0, sx1, sx2, sx3, sx4, sx5, sx6, tf4, ev3_hold, sxo, sxc, sxp, sxq, sxr, sxs, sxl, sxm, simprocAttr, dn]
    try rfl
  | true =>
  obtain ⟨⟨a1, a2⟩, ⟨f1, f2⟩, ⟨g1, g2⟩, hkd⟩ := hb rfl
  try simp only [] at a1 a2 f1 f2 g1 g2 hkd
  obtain ⟨A, rfl⟩ := Int.eq_ofNat_of_zero_le a1
  obtain ⟨F, rfl⟩ := Int.eq_ofNat_of_zero_le f1
  obtain ⟨G, rfl⟩ := Int.eq_ofNat_of_zero_le g1
  have hA : A < c.tide.length := by omega
  have hF : F < c.depth.length := by omega
  have hG : G < c.depth.length := by omega
  have hrt := fun (H : List HO) w' (hp : Hp ⟨w, fun _ => False⟩ H w') => lRoute_fn w' (hw.hp hp) sD sT sS c (hc0.hp hp) hs hok g tt A F G hkd hA hF hG
  have har := fun (H : List HO) w' (hp : Hp ⟨w, fun _ => False⟩ H w') => arrive_fn w' (hw.hp hp) _ c (hc0.hp hp) hs g F A
  have hde := fun (t : Nat) (H : List HO) w' (hp : Hp ⟨w, fun _ => False⟩ H w') => depart_fn w' (hw.hp hp) _ c (hc0.hp hp) hs g G t
  unfold trv at hrt
  try simp only [] at hrt
  obtain ⟨aD, nD, cD, rfl⟩ := hsD.shape
  have hnD := hsD.le i1_len (by have := hs.1; omega)
  subst hnD
  refine ⟨?_⟩
  simp (config := { maxSteps := 4000000 }) only [↓sx0, ↓sx1, ↓sx2, ↓sx3, ↓sx4, ↓sx5, ↓sx6, sx0, sx1, sx2, sx3, sx4, sx5, sx6, tf4, ev3_hold, sxo, sxc, sxp, sxq, sxr, sxs, sxl, sxm, simprocAttr, dn]
  refine CallOb.pureH (fun w' hp => hrt _ w' hp) ?_
  rintro q N4 ⟨q, e, rfl, hq⟩
  refine ⟨?_⟩
  simp (config := { maxSteps := 4000000 }) only [↓sx0, ↓sx1, ↓sx2, ↓sx3, ↓sx4, ↓sx5, ↓sx6, sx0, sx1, sx2, sx3, sx4, sx5, sx6, tf4, ev3_hold, sxo, sxc, sxp, sxq, sxr, sxs, sxl, sxm, simprocAttr, dn]
  refine CallOb.pureH (fun w' hp => har _ w' hp) ?_
  rintro q2 N5 hq2
  have hkd2 : 1 ≤ g ∧ g ≤ 100 := by
    unfold kindB at hkd
    rw [if_pos rfl] at hkd
    exact (inB_iff _ _ _).1 hkd
  have hop := openE_at hok hF hA hkd2
  rcases hq2 with ⟨h1, _⟩ | ⟨_, x, rfl, hx⟩
  · exact absurd hop h1
  obtain ⟨S, hS⟩ : ∃ S, arrL c g F A (c.tide.length - A) = S := ⟨_, rfl⟩
  have hSl : S.length = c.depth.length := by rw [← hS, arrL_len]
  rw [show ((A : Int).toNat) = A from rfl, show ((F : Int).toNat) = F from rfl, hS] at hx
  have hSG : S[G]? = some (S.getD G 0) := by rw [List.getD_eq_getElem?_getD, List.getElem?_eq_getElem (by omega)]; rfl
  have eG : ((G : Int) < (c.depth.length : Int)) = True := eq_true (by omega)
  have hrS : ∀ H : List HO, HO.row (.slice (some ⟨x, 0, none⟩) c.depth.length c.depth.length) 3 1 (ints S) ∈ H → Rdv ⟨w, fun _ => False⟩ H (.slice (some ⟨x, 0, none⟩) c.depth.length c.depth.length) 1 (ints S) := fun H hm => row_rdv (E := 3) hm ⟨_, _, _, rfl, by rw [cat_len i1_len, hSl, Nat.mul_one], fun h => by cases h⟩
  rcases hq with ⟨p, hp, hpn, hGot, rfl⟩ | ⟨rfl, rfl, hno⟩
  case inr =>
    have hneg : S.getD G 0 = -1 := by rw [← hS]; exact arr_none hok hF hG hno
    rw [hneg] at hSG
    have e1 : ((-1 : Int) < 0) = True := eq_true (by omega)
    refine ⟨?_⟩
    simp (config := { maxSteps := 4000000 }) only [↓sx0, ↓sx1, ↓sx2, ↓sx3, ↓sx4, ↓sx5, ↓sx6, sx0, sx1, sx2, sx3, sx4, sx5, sx6, tf4, ev3_hold, sxo, sxc, sxp, sxq, sxr, sxs, sxl, sxm, simprocAttr, eG, dn]
    refine amid (at_1 (k := G) (x := I (-1)) (hrS _ (List.mem_append_left _ hx)) i1_len (u := (-1 : Int)) hSG rfl fun ad => ?_)
    simp (config := { maxSteps := 4000000 }) only [↓sx0, ↓sx1, ↓sx2, ↓sx3, ↓sx4, ↓sx5, ↓sx6, sx0, sx1, sx2, sx3, sx4, sx5, sx6, tf4, ev3_hold, sxo, sxc, sxp, sxq, sxr, sxs, sxl, sxm, simprocAttr, e1, dn]
    refine CallOb.pureH (fun w' hp => hro _ w' hp) ?_
    rintro q N6 rfl
    refine ⟨?_⟩
    simp (config := { maxSteps := 4000000 }) only [↓sx0, ↓sx1, ↓sx2, ↓sx3, ↓sx4, ↓sx5, ↓sx6, sx0, sx1, sx2, sx3, sx4, sx5, sx6, tf4, ev3_hold, sxo, sxc, sxp, sxq, sxr, sxs, sxl, sxm, simprocAttr, dn]
    try rfl
  obtain ⟨hp1, hp2⟩ := hp.len
  have hT60 : c.tide.length ≤ 60 := hok.2.2.2.1.2
  have hpe := route_end hok hF hG hp
  rw [hS] at hpe
  rw [hpe] at hSG
  have e1 : (((A + (p.length - 1) : Nat) : Int) < 0) = False := eq_false (by omega)
  obtain ⟨pa, pc, rfl, hpnil, hpm⟩ := hGot
  have hnl : (nts p).length = p.length := by unfold nts; rw [List.length_map]
  have ew1 : wr ((A : Int) + (p.length : Int)) = (A : Int) + (p.length : Int) := wrap_id (by omega)
  have ew2 : wr ((A : Int) + (p.length : Int) - 1) = ((A + (p.length - 1) : Nat) : Int) := (wrap_id (by omega)).trans (by omega)
  rw [hnl]
  refine ⟨?_⟩
  simp (config := { maxSteps := 4000000 }) only [↓sx0, ↓sx1, ↓sx2, ↓sx3, ↓sx4, ↓sx5, ↓sx6, sx0, sx1, sx2, sx3, sx4, sx5, sx6, tf4, ev3_hold, sxo, sxc, sxp, sxq, sxr, sxs, sxl, sxm, simprocAttr, eG, dn]
  refine amid (at_1 (k := G) (x := I ((A + (p.length - 1) : Nat) : Int)) (hrS _ (List.mem_append_left _ hx)) i1_len (u := ((A + (p.length - 1) : Nat) : Int)) hSG rfl fun ad => ?_)
  simp (config := { maxSteps := 4000000 }) only [↓sx0, ↓sx1, ↓sx2, ↓sx3, ↓sx4, ↓sx5, ↓sx6, sx0, sx1, sx2, sx3, sx4, sx5, sx6, tf4, ev3_hold, sxo, sxc, sxp, sxq, sxr, sxs, sxl, sxm, simprocAttr, e1, eG, ew1, ew2, dn]
  refine amid (at_1 (k := G) (x := I ((A + (p.length - 1) : Nat) : Int)) (hrS _ (List.mem_append_left _ hx)) i1_len (u := ((A + (p.length - 1) : Nat) : Int)) hSG rfl fun ad2 => ?_)
  simp (config := { maxSteps := 4000000 }) only [↓sx0, ↓sx1, ↓sx2, ↓sx3, ↓sx4, ↓sx5, ↓sx6, sx0, sx1, sx2, sx3, sx4, sx5, sx6, tf4, ev3_hold, sxo, sxc, sxp, sxq, sxr, sxs, sxl, sxm, simprocAttr, e1, eG, dn]
  refine amid (at_1 (k := G) (x := I ((A + (p.length - 1) : Nat) : Int)) (hrS _ (List.mem_append_left _ hx)) i1_len (u := ((A + (p.length - 1) : Nat) : Int)) hSG rfl fun ad3 => ?_)
  simp (config := { maxSteps := 4000000 }) only [↓sx0, ↓sx1, ↓sx2, ↓sx3, ↓sx4, ↓sx5, ↓sx6, sx0, sx1, sx2, sx3, sx4, sx5, sx6, tf4, ev3_hold, sxo, sxc, sxp, sxq, sxr, sxs, sxl, sxm, simprocAttr, dn]
  refine CallOb.pureH (fun w' hp => hde (A + (p.length - 1)) _ w' hp) ?_
  rintro q3 N6 hq3
  have hop2 := openE_at hok hG (show A + (p.length - 1) < c.tide.length by omega) hkd2
  rcases hq3 with ⟨h1, _⟩ | ⟨_, y, rfl, hy⟩
  · exact absurd hop2 h1
  rw [show (((A + (p.length - 1) : Nat) : Int).toNat) = A + (p.length - 1) from rfl, show ((G : Int).toNat) = G from rfl] at hy
  have hlf := fun {j : Nat} (hj : j < p.length) => route_left hok hG hp hj
  have hce := fun {j : Nat} (hj : j < p.length) => route_cell hok hF hp hj
  simp only [hS] at hce
  obtain ⟨D, hD⟩ : ∃ D, depL c g G (A + (p.length - 1)) (A + (p.length - 1) + 1) = D := ⟨_, rfl⟩
  have hDl : D.length = c.depth.length := by rw [← hD, depL_len]
  rw [hD] at hy
  simp only [hD] at hlf
  have hrD : ∀ H : List HO, HO.row (.slice (some ⟨y, 0, none⟩) c.depth.length c.depth.length) 3 1 (ints D) ∈ H → Rdv ⟨w, fun _ => False⟩ H (.slice (some ⟨y, 0, none⟩) c.depth.length c.depth.length) 1 (ints D) := fun H hm => row_rdv (E := 3) hm ⟨_, _, _, rfl, by rw [cat_len i1_len, hDl, Nat.mul_one], fun h => by cases h⟩
  have hpm2 : HO.row (.slice pa p.length pc) 3 1 (cat i1 (nts p)) ∈ N4 := by
    rw [hnl] at hpm
    rcases hpm with h | h
    · injection h with _ h
      omega
    · exact h
  have hpa : pa = none → ints (nts p) = [] := fun h => by
    have := hpnil h
    rw [this]
    rfl
  obtain ⟨HH, hHH⟩ : ∃ HH, N6 ++ (N5 ++ (N4 ++ (N3 ++ (N2 ++ N)))) = HH := ⟨_, rfl⟩
  have hmD := hrD HH (by rw [← hHH]; simp [hy])
  have hmS := hrS HH (by rw [← hHH]; simp [hx])
  have hmP : Rdv ⟨w, fun _ => False⟩ HH (.slice pa p.length pc) 1 (ints (nts p)) := row_rdv (E := 3) (by rw [← hHH]; exact List.mem_append_right _ (List.mem_append_right _ (List.mem_append_left _ hpm2))) ⟨_, _, _, rfl, by rw [cat_len i1_len, hnl, Nat.mul_one], hpa⟩
  rw [hHH]
  refine ⟨?_⟩
  simp (config := { maxSteps := 4000000 }) only [↓sx0, ↓sx1, ↓sx2, ↓sx3, ↓sx4, ↓sx5, ↓sx6, sx0, sx1, sx2, sx3, sx4, sx5, sx6, tf4, ev3_hold, sxo, sxc, sxp, sxq, sxr, sxs, sxl, sxm, simprocAttr, dn]
  refine loop_constH HH (HImp.refl _ _) [(4, 4), (11, 11), (105, 162)] (fun k : Nat => [(11, I k)]) (fun k H1 => k ≤ p.length ∧ H1 = HH) (fun k => p.length - k) 0 ?_ ⟨Nat.zero_le _, rfl⟩ ?_
  · simp (config := { maxSteps := 4000000 }) only [↓sx0, ↓sx1, ↓sx2, ↓sx3, ↓sx4, ↓sx5, ↓sx6, sx0, sx1, sx2, sx3, sx4, sx5, sx6, tf4, ev3_hold, sxo, sxc, sxp, sxq, sxr, sxs, sxl, sxm, simprocAttr]
    try simp
  rintro k H1 g1 ⟨hk, rfl⟩
  by_cases hkn : k = p.length
  · subst hkn
    have e5 : ((p.length : Int) < (p.length : Int)) = False := eq_false (by omega)
    refine ⟨?_⟩
    simp (config := { maxSteps := 4000000 }) only [↓sx0, ↓sx1, ↓sx2, ↓sx3, ↓sx4, ↓sx5, ↓sx6, sx0, sx1, sx2, sx3, sx4, sx5, sx6, tf4, ev3_hold, sxo, sxc, sxp, sxq, sxr, sxs, sxl, sxm, simprocAttr, e5, dn]
    refine CallOb.pureH (fun w' hp => hro _ w' hp) ?_
    rintro q N7 rfl
    refine ⟨?_⟩
    simp (config := { maxSteps := 4000000 }) only [↓sx0, ↓sx1, ↓sx2, ↓sx3, ↓sx4, ↓sx5, ↓sx6, sx0, sx1, sx2, sx3, sx4, sx5, sx6, tf4, ev3_hold, sxo, sxc, sxp, sxq, sxr, sxs, sxl, sxm, simprocAttr, dn]
    try rfl
  have hk2 : k < p.length := by omega
  have e5 : ((k : Int) < (p.length : Int)) = True := eq_true (by omega)
  have e6 : wr ((k : Int) + 1) = ((k + 1 : Nat) : Int) := (wrap_id (by omega)).trans (by omega)
  have e7 : wr ((A : Int) + (k : Int)) = ((A + k : Nat) : Int) := (wrap_id (by omega)).trans (by omega)
  obtain ⟨z, hz⟩ : ∃ z, p.getD k 0 = z := ⟨_, rfl⟩
  obtain ⟨c1, c2, c3⟩ := hce hk2
  have c4 := hlf hk2
  rw [hz] at c1 c2 c3 c4
  obtain ⟨sv, hsv⟩ : ∃ sv, S.getD z 0 = sv := ⟨_, rfl⟩
  obtain ⟨dv, hdv⟩ : ∃ dv, D.getD z 0 = dv := ⟨_, rfl⟩
  rw [hsv] at c2 c3
  rw [hdv] at c4
  have hPz : (nts p)[k]? = some (z : Int) := by
    unfold nts
    rw [List.getElem?_map, ← hz, List.getD_eq_getElem?_getD, List.getElem?_eq_getElem hk2]
    rfl
  have hSz : S[z]? = some sv := by rw [← hsv, List.getD_eq_getElem?_getD, List.getElem?_eq_getElem (by omega)]; rfl
  have hDz : D[z]? = some dv := by rw [← hdv, List.getD_eq_getElem?_getD, List.getElem?_eq_getElem (by omega)]; rfl
  have z1 : ((z : Int) < 0) = False := eq_false (by omega)
  have z2 : ((z : Int) ≥ (c.depth.length : Int)) = False := eq_false (by omega)
  have z3 : ((z : Int) < (c.depth.length : Int)) = True := eq_true (by omega)
  have z4 : (sv < 0) = False := eq_false (by omega)
  have z5 : (sv > ((A + k : Nat) : Int)) = False := eq_false (by omega)
  have z6 : (dv < ((A + k : Nat) : Int)) = False := eq_false (by omega)
  refine ⟨?_⟩
  simp (config := { maxSteps := 4000000 }) only [↓sx0, ↓sx1, ↓sx2, ↓sx3, ↓sx4, ↓sx5, ↓sx6, sx0, sx1, sx2, sx3, sx4, sx5, sx6, tf4, ev3_hold, sxo, sxc, sxp, sxq, sxr, sxs, sxl, sxm, simprocAttr, e5, dn]
  refine amid (at_1 hmP i1_len hPz rfl fun d1 => ?_)
  simp (config := { maxSteps := 4000000 }) only [↓sx0, ↓sx1, ↓sx2, ↓sx3, ↓sx4, ↓sx5, ↓sx6, sx0, sx1, sx2, sx3, sx4, sx5, sx6, tf4, ev3_hold, sxo, sxc, sxp, sxq, sxr, sxs, sxl, sxm, simprocAttr, e5, z1, dn]
  refine amid (at_1 hmP i1_len hPz rfl fun d2 => ?_)
  simp (config := { maxSteps := 4000000 }) only [↓sx0, ↓sx1, ↓sx2, ↓sx3, ↓sx4, ↓sx5, ↓sx6, sx0, sx1, sx2, sx3, sx4, sx5, sx6, tf4, ev3_hold, sxo, sxc, sxp, sxq, sxr, sxs, sxl, sxm, simprocAttr, e5, z1, z2, dn]
  refine amid (at_1 hmP i1_len hPz rfl fun d3 => ?_)
  simp (config := { maxSteps := 4000000 }) only [↓sx0, ↓sx1, ↓sx2, ↓sx3, ↓sx4, ↓sx5, ↓sx6, sx0, sx1, sx2, sx3, sx4, sx5, sx6, tf4, ev3_hold, sxo, sxc, sxp, sxq, sxr, sxs, sxl, sxm, simprocAttr, z3, dn]
  refine amid (at_1 (k := z) hmS i1_len hSz rfl fun d4 => ?_)
  simp (config := { maxSteps := 4000000 }) only [↓sx0, ↓sx1, ↓sx2, ↓sx3, ↓sx4, ↓sx5, ↓sx6, sx0, sx1, sx2, sx3, sx4, sx5, sx6, tf4, ev3_hold, sxo, sxc, sxp, sxq, sxr, sxs, sxl, sxm, simprocAttr, e5, z4, dn]
  refine amid (at_1 hmP i1_len hPz rfl fun d5 => ?_)
  simp (config := { maxSteps := 4000000 }) only [↓sx0, ↓sx1, ↓sx2, ↓sx3, ↓sx4, ↓sx5, ↓sx6, sx0, sx1, sx2, sx3, sx4, sx5, sx6, tf4, ev3_hold, sxo, sxc, sxp, sxq, sxr, sxs, sxl, sxm, simprocAttr, z3, dn]
  refine amid (at_1 (k := z) hmS i1_len hSz rfl fun d6 => ?_)
  simp (config := { maxSteps := 4000000 }) only [↓sx0, ↓sx1, ↓sx2, ↓sx3, ↓sx4, ↓sx5, ↓sx6, sx0, sx1, sx2, sx3, sx4, sx5, sx6, tf4, ev3_hold, sxo, sxc, sxp, sxq, sxr, sxs, sxl, sxm, simprocAttr, e5, e7, z5, dn]
  refine amid (at_1 hmP i1_len hPz rfl fun d7 => ?_)
  simp (config := { maxSteps := 4000000 }) only [↓sx0, ↓sx1, ↓sx2, ↓sx3, ↓sx4, ↓sx5, ↓sx6, sx0, sx1, sx2, sx3, sx4, sx5, sx6, tf4, ev3_hold, sxo, sxc, sxp, sxq, sxr, sxs, sxl, sxm, simprocAttr, z3, dn]
  refine amid (at_1 (k := z) hmD i1_len hDz rfl fun d8 => ?_)
  simp (config := { maxSteps := 4000000 }) only [↓sx0, ↓sx1, ↓sx2, ↓sx3, ↓sx4, ↓sx5, ↓sx6, sx0, sx1, sx2, sx3, sx4, sx5, sx6, tf4, ev3_hold, sxo, sxc, sxp, sxq, sxr, sxs, sxl, sxm, simprocAttr, e6, e7, z6, dn]
  exact ⟨k + 1, _, rfl, HImp.refl _ _, ⟨by omega, rfl⟩, by omega⟩
end Go.Proofs.YtogicfoigeongaaDoor

