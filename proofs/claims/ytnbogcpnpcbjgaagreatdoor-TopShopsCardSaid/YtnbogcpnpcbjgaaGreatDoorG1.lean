/- Parts of a proof: the symbolic walk and what it shows of single functions. -/
import Derived.Test.YtnbogcpnpcbjgaaGreatDoorC1
import Derived.Test.YtnbogcpnpcbjgaaGreatDoorX3
import Derived.Test.YtnbogcpnpcbjgaaGreatDoorX5
set_option linter.all false
namespace Go.Proofs.YtnbogcpnpcbjgaaGreatDoor
open Go.RowKit Go.SX
set_option maxRecDepth 10000
set_option maxHeartbeats 0
set_option linter.unusedSimpArgs false
set_option linter.unusedVariables false
theorem gwithin_fn (w : World) (n lo hi : Int) : SX.Fn Tryz.prog 58 [I n, I lo, I hi] w (fun _ => False) fun q N => q = .bool (decide (lo ≤ n ∧ n ≤ hi)) := by
  by_cases h1 : lo ≤ n
  · have e1 : (lo ≤ n) = True := eq_true h1
    refine walk [] [] (det0_ok _ _) Tryz.func58 rfl Tryz.ntmps58 res58 (by kernel_rfl) no_facts ?_
    simp (config := { maxSteps := 4000000 }) only [↓sx0, ↓sx1, ↓sx2, ↓sx3, ↓sx4, ↓sx5, ↓sx6, sx0, sx1, sx2, sx3, sx4, sx5, sx6, tf58, ev3_hold, sxo, sxc, sxp, sxq, sxr, sxs, sxl, sxm, simprocAttr, e1]
    try simp
  · have e1 : (lo ≤ n) = False := eq_false h1
    refine walk [] [] (det0_ok _ _) Tryz.func58 rfl Tryz.ntmps58 res58 (by kernel_rfl) no_facts ?_
    simp (config := { maxSteps := 4000000 }) only [↓sx0, ↓sx1, ↓sx2, ↓sx3, ↓sx4, ↓sx5, ↓sx6, sx0, sx1, sx2, sx3, sx4, sx5, sx6, tf58, ev3_hold, sxo, sxc, sxp, sxq, sxr, sxs, sxl, sxm, simprocAttr, e1]
    try simp
theorem spare_fn (w : World) (vL vN vU : Value) (left need uses : List Int) (hL : Sl w vL 1 (ints left)) (hN : Sl w vN 1 (ints need)) (hU : Sl w vU 1 (ints uses)) (h1 : left.length ≤ 1000) (h2 : need.length ≤ 1000) (h3 : need.length ≤ uses.length) (B : Int) :
    SX.Fn Tryz.prog 91 [.agg #[vL, vN, vU], I B] w (fun _ => False) fun q N => q = .tuple #[I (spM left need uses B), I (spA need uses B need.length).2] := by
  obtain ⟨aL, nL, cL, rfl⟩ := hL.shape
  obtain ⟨aN, nN, cN, rfl⟩ := hN.shape
  obtain ⟨aU, nU, cU, rfl⟩ := hU.shape
  have hnL := hL.le i1_len (by omega)
  have hnN := hN.le i1_len (by omega)
  have hnU := hU.le i1_len (by omega)
  subst hnL hnN hnU
  have hrL := fun H => hL.rd0 H
  have hrN := fun H => hN.rd0 H
  have hrU := fun H => hU.rd0 H
  unfold spM
  obtain ⟨P, hP⟩ : ∃ P : Nat → Int × Int, ∀ k, spA need uses B k = P k := ⟨_, fun _ => rfl⟩
  have hP0 : P 0 = (0, 0) := by rw [← hP]; rfl
  have hPs : ∀ k, P (k + 1) = if bitI B k then (wr ((P k).1 - need.getD k 0), bitS .or .i64 (P k).2 (uses.getD k 0)) else P k := fun k => by rw [← hP, ← hP]; rfl
  simp only [hP]
  refine walk [] [] (det0_ok _ _) Tryz.func91 rfl Tryz.ntmps91 res91 (by kernel_rfl) no_facts ?_
  simp (config := { maxSteps := 4000000 }) only [↓sx0, ↓sx1, ↓sx2, ↓sx3, ↓sx4, ↓sx5, ↓sx6, sx0, sx1, sx2, sx3, sx4, sx5, sx6, tf91, ev3_hold, sxo, sxc, sxp, sxq, sxr, sxs, sxl, sxm, simprocAttr]
  refine loop_constH [] (HImp.nil _ _) [(4, 7), (13, 33)] (fun k : Nat => [(4, I (P k).1), (5, I (P k).2), (13, I k)]) (fun k H1 => k ≤ need.length) (fun k => need.length - k) 0 ?_ (Nat.zero_le _) ?_
  · simp (config := { maxSteps := 4000000 }) only [↓sx0, ↓sx1, ↓sx2, ↓sx3, ↓sx4, ↓sx5, ↓sx6, sx0, sx1, sx2, sx3, sx4, sx5, sx6, tf91, ev3_hold, sxo, sxc, sxp, sxq, sxr, sxs, sxl, sxm, simprocAttr, hP0]
    try simp
  rintro k H1 g1 hk
  by_cases hkn : k = need.length
  case neg =>
    have e7 : ((k : Int) < (need.length : Int)) = True := eq_true (by omega)
    have e8 : wr (k + 1) = ((k + 1 : Nat) : Int) := (wrap_id (by omega)).trans (by omega)
    obtain ⟨y, hy⟩ : ∃ y, need[k]? = some y := ⟨_, List.getElem?_eq_getElem (by omega)⟩
    obtain ⟨u, hu⟩ : ∃ u, uses[k]? = some u := ⟨_, List.getElem?_eq_getElem (by omega)⟩
    have hyd : need.getD k 0 = y := by rw [List.getD_eq_getElem?_getD, hy]; rfl
    have hud : uses.getD k 0 = u := by rw [List.getD_eq_getElem?_getD, hu]; rfl
    have hs := hPs k
    rw [hyd, hud] at hs
    cases hb : bitI B k with
    | true =>
      rw [hb, if_pos rfl] at hs
      unfold bitI at hb
      have b1 : (bitS .and .i64 (B.fdiv (2 ^ (min k IntKind.i64.bits))) 1 = 1) = True := eq_true (of_decide_eq_true hb)
      refine ⟨?_⟩
      simp (config := { maxSteps := 4000000 }) only [↓sx0, ↓sx1, ↓sx2, ↓sx3, ↓sx4, ↓sx5, ↓sx6, sx0, sx1, sx2, sx3, sx4, sx5, sx6, tf91, ev3_hold, sxo, sxc, sxp, sxq, sxr, sxs, sxl, sxm, simprocAttr, e7]
      refine amid (at_1 (hrN _) i1_len hy rfl fun ad => ?_)
      simp (config := { maxSteps := 4000000 }) only [↓sx0, ↓sx1, ↓sx2, ↓sx3, ↓sx4, ↓sx5, ↓sx6, sx0, sx1, sx2, sx3, sx4, sx5, sx6, tf91, ev3_hold, sxo, sxc, sxp, sxq, sxr, sxs, sxl, sxm, simprocAttr, b1]
      refine ⟨by omega, at_1 (hrU _) i1_len hu rfl fun ad => ?_⟩
      simp (config := { maxSteps := 4000000 }) only [↓sx0, ↓sx1, ↓sx2, ↓sx3, ↓sx4, ↓sx5, ↓sx6, sx0, sx1, sx2, sx3, sx4, sx5, sx6, tf91, ev3_hold, sxo, sxc, sxp, sxq, sxr, sxs, sxl, sxm, simprocAttr, e8]
      exact ⟨k + 1, _, by rw [hs]; exact ⟨rfl, rfl, rfl⟩, HImp.refl _ _, by omega, by omega⟩
    | false =>
      rw [hb, if_neg (by simp)] at hs
      unfold bitI at hb
      have b1 : (bitS .and .i64 (B.fdiv (2 ^ (min k IntKind.i64.bits))) 1 = 1) = False := eq_false (of_decide_eq_false hb)
      refine ⟨?_⟩
      simp (config := { maxSteps := 4000000 }) only [↓sx0, ↓sx1, ↓sx2, ↓sx3, ↓sx4, ↓sx5, ↓sx6, sx0, sx1, sx2, sx3, sx4, sx5, sx6, tf91, ev3_hold, sxo, sxc, sxp, sxq, sxr, sxs, sxl, sxm, simprocAttr, e7]
      refine amid (at_1 (hrN _) i1_len hy rfl fun ad => ?_)
      simp (config := { maxSteps := 4000000 }) only [↓sx0, ↓sx1, ↓sx2, ↓sx3, ↓sx4, ↓sx5, ↓sx6, sx0, sx1, sx2, sx3, sx4, sx5, sx6, tf91, ev3_hold, sxo, sxc, sxp, sxq, sxr, sxs, sxl, sxm, simprocAttr, b1, e8]
      exact ⟨by omega, k + 1, _, by rw [hs]; exact ⟨rfl, rfl, rfl⟩, HImp.refl _ _, by omega, by omega⟩
  have e7 : ((k : Int) < (need.length : Int)) = False := eq_false (by omega)
  obtain ⟨G, hG⟩ : ∃ G, (P need.length).2 = G := ⟨_, rfl⟩
  obtain ⟨m, hm⟩ : ∃ m, (P need.length).1 = m := ⟨_, rfl⟩
  have hG1 : (P k).2 = G := by rw [hkn]; exact hG
  have hm1 : (P k).1 = m := by rw [hkn]; exact hm
  obtain ⟨Q, hQ⟩ : ∃ Q : Nat → Int, ∀ j, spB left G m j = Q j := ⟨_, fun _ => rfl⟩
  have hQ0 : Q 0 = m := by rw [← hQ]; rfl
  have hQs : ∀ j, Q (j + 1) = if bitI G j then wr (Q j + left.getD j 0) else Q j := fun j => by rw [← hQ, ← hQ]; rfl
  have hPn : P need.length = (m, G) := by rw [← hG, ← hm]
  have hQn : spB left G m left.length = Q left.length := hQ _
  refine ⟨?_⟩
  simp (config := { maxSteps := 4000000 }) only [↓sx0, ↓sx1, ↓sx2, ↓sx3, ↓sx4, ↓sx5, ↓sx6, sx0, sx1, sx2, sx3, sx4, sx5, sx6, tf91, ev3_hold, sxo, sxc, sxp, sxq, sxr, sxs, sxl, sxm, simprocAttr, e7, hm1, hG1]
  refine loop_constH [] (HImp.nil _ _) [(4, 4), (8, 9), (37, 50)] (fun j : Nat => [(4, I (Q j)), (37, I j)]) (fun j H1 => j ≤ left.length) (fun j => left.length - j) 0 ?_ (Nat.zero_le _) ?_
  · simp (config := { maxSteps := 4000000 }) only [↓sx0, ↓sx1, ↓sx2, ↓sx3, ↓sx4, ↓sx5, ↓sx6, sx0, sx1, sx2, sx3, sx4, sx5, sx6, tf91, ev3_hold, sxo, sxc, sxp, sxq, sxr, sxs, sxl, sxm, simprocAttr, hQ0]
    try simp
  rintro j H2 g2 hj
  by_cases hjn : j = left.length
  case neg =>
    have f7 : ((j : Int) < (left.length : Int)) = True := eq_true (by omega)
    have f8 : wr (j + 1) = ((j + 1 : Nat) : Int) := (wrap_id (by omega)).trans (by omega)
    obtain ⟨y, hy⟩ : ∃ y, left[j]? = some y := ⟨_, List.getElem?_eq_getElem (by omega)⟩
    have hyd : left.getD j 0 = y := by rw [List.getD_eq_getElem?_getD, hy]; rfl
    have hs := hQs j
    rw [hyd] at hs
    cases hb : bitI G j with
    | true =>
      rw [hb, if_pos rfl] at hs
      unfold bitI at hb
      have b1 : (bitS .and .i64 (G.fdiv (2 ^ (min j IntKind.i64.bits))) 1 = 1) = True := eq_true (of_decide_eq_true hb)
      refine ⟨?_⟩
      simp (config := { maxSteps := 4000000 }) only [↓sx0, ↓sx1, ↓sx2, ↓sx3, ↓sx4, ↓sx5, ↓sx6, sx0, sx1, sx2, sx3, sx4, sx5, sx6, tf91, ev3_hold, sxo, sxc, sxp, sxq, sxr, sxs, sxl, sxm, simprocAttr, f7]
      refine amid (at_1 (hrL _) i1_len hy rfl fun ad => ?_)
      simp (config := { maxSteps := 4000000 }) only [↓sx0, ↓sx1, ↓sx2, ↓sx3, ↓sx4, ↓sx5, ↓sx6, sx0, sx1, sx2, sx3, sx4, sx5, sx6, tf91, ev3_hold, sxo, sxc, sxp, sxq, sxr, sxs, sxl, sxm, simprocAttr, b1, f8]
      exact ⟨by omega, j + 1, _, by rw [hs]; exact ⟨rfl, rfl⟩, HImp.refl _ _, by omega, by omega⟩
    | false =>
      rw [hb, if_neg (by simp)] at hs
      unfold bitI at hb
      have b1 : (bitS .and .i64 (G.fdiv (2 ^ (min j IntKind.i64.bits))) 1 = 1) = False := eq_false (of_decide_eq_false hb)
      refine ⟨?_⟩
      simp (config := { maxSteps := 4000000 }) only [↓sx0, ↓sx1, ↓sx2, ↓sx3, ↓sx4, ↓sx5, ↓sx6, sx0, sx1, sx2, sx3, sx4, sx5, sx6, tf91, ev3_hold, sxo, sxc, sxp, sxq, sxr, sxs, sxl, sxm, simprocAttr, f7]
      refine amid (at_1 (hrL _) i1_len hy rfl fun ad => ?_)
      simp (config := { maxSteps := 4000000 }) only [↓sx0, ↓sx1, ↓sx2, ↓sx3, ↓sx4, ↓sx5, ↓sx6, sx0, sx1, sx2, sx3, sx4, sx5, sx6, tf91, ev3_hold, sxo, sxc, sxp, sxq, sxr, sxs, sxl, sxm, simprocAttr, b1, f8]
      exact ⟨by omega, j + 1, _, by rw [hs]; exact ⟨rfl, rfl⟩, HImp.refl _ _, by omega, by omega⟩
  have f7 : ((j : Int) < (left.length : Int)) = False := eq_false (by omega)
  have hQj : Q j = Q left.length := by rw [hjn]
  rw [hPn]
  simp only [hQn]
  rw [← hQj]
  refine ⟨?_⟩
  simp (config := { maxSteps := 4000000 }) only [↓sx0, ↓sx1, ↓sx2, ↓sx3, ↓sx4, ↓sx5, ↓sx6, sx0, sx1, sx2, sx3, sx4, sx5, sx6, tf91, ev3_hold, sxo, sxc, sxp, sxq, sxr, sxs, sxl, sxm, simprocAttr, f7]
end Go.Proofs.YtnbogcpnpcbjgaaGreatDoor

namespace Go.Proofs.YtnbogcpnpcbjgaaGreatDoor
open Go.RowKit Go.SX
set_option maxRecDepth 10000
set_option maxHeartbeats 0
set_option linter.unusedSimpArgs false
set_option linter.unusedVariables false
theorem shl8 : ∀ n : Fin 9, IntKind.i64.wrap (1 * 2 ^ (min n.val IntKind.i64.bits)) = ((2 ^ n.val : Nat) : Int) := by decide +kernel
theorem sets_fn (w : World) (vL vN vU : Value) (need : List Int) (hN : Sl w vN 1 (ints need)) (h2 : need.length ≤ 8) :
    SX.Fn Tryz.prog 90 [.agg #[vL, vN, vU]] w (fun _ => False) fun q N => q = I ((2 ^ need.length : Nat) : Int) := by
  obtain ⟨aN, nN, cN, rfl⟩ := hN.shape
  have hnN := hN.le i1_len (by omega)
  subst hnN
  have e1 : IntKind.i64.wrap (1 * 2 ^ (min need.length IntKind.i64.bits)) = ((2 ^ need.length : Nat) : Int) := shl8 ⟨need.length, by omega⟩
  refine walk [] [] (det0_ok _ _) Tryz.func90 rfl Tryz.ntmps90 res90 (by kernel_rfl) no_facts ?_
  simp (config := { maxSteps := 4000000 }) only [↓sx0, ↓sx1, ↓sx2, ↓sx3, ↓sx4, ↓sx5, ↓sx6, sx0, sx1, sx2, sx3, sx4, sx5, sx6, tf90, ev3_hold, sxo, sxc, sxp, sxq, sxr, sxs, sxl, sxm, simprocAttr, e1]
  try simp
theorem paid_fn (w : World) (vL vN vU : Value) (left need uses : List Int) (hL : Sl w vL 1 (ints left)) (hN : Sl w vN 1 (ints need)) (hU : Sl w vU 1 (ints uses)) (h1 : left.length ≤ 1000) (h2 : need.length ≤ 8) (h3 : need.length ≤ uses.length) :
    SX.Fn Tryz.prog 50 [.agg #[vL, vN, vU]] w (fun _ => False) fun q N => ∃ b, q = .bool b ∧ (b = true ↔ ∀ S : Nat, S < 2 ^ need.length → 0 ≤ spM left need uses S) := by
  have dn : ∀ (g : Nat) (xs : List Value), det0 g xs = none := fun _ _ => rfl
  have hse := fun (H : List HO) w' (hp : Hp ⟨w, fun _ => False⟩ H w') => sets_fn w' vL vN vU need (Sl.hp (w0 := ⟨w, fun _ => False⟩) hN (fun _ _ => id) hp) h2
  have hsp := fun (B : Int) (H : List HO) w' (hp : Hp ⟨w, fun _ => False⟩ H w') => spare_fn w' vL vN vU left need uses (Sl.hp (w0 := ⟨w, fun _ => False⟩) hL (fun _ _ => id) hp) (Sl.hp (w0 := ⟨w, fun _ => False⟩) hN (fun _ _ => id) hp) (Sl.hp (w0 := ⟨w, fun _ => False⟩) hU (fun _ _ => id) hp) h1 (by omega) h3 B
  obtain ⟨aL, nL, cL, rfl⟩ := hL.shape
  obtain ⟨aN, nN, cN, rfl⟩ := hN.shape
  obtain ⟨aU, nU, cU, rfl⟩ := hU.shape
  have h256 : 2 ^ need.length ≤ 256 := by
    have := Nat.pow_le_pow_right (n := 2) (by omega) h2
    exact this
  obtain ⟨K, hK⟩ : ∃ K, 2 ^ need.length = K := ⟨_, rfl⟩
  rw [hK] at h256 ⊢
  simp only [hK] at hse
  obtain ⟨M, hM⟩ : ∃ M : Nat → Int, ∀ S : Nat, spM left need uses S = M S := ⟨_, fun _ => rfl⟩
  have hspN := fun (k : Nat) => hsp (k : Int)
  simp only [hM] at hspN ⊢
  refine walk [] [] (det0_ok _ _) Tryz.func50 rfl Tryz.ntmps50 res50 (by kernel_rfl) no_facts ?_
  simp (config := { maxSteps := 4000000 }) only [↓sx0, ↓sx1, ↓sx2, ↓sx3, ↓sx4, ↓sx5, ↓sx6, sx0, sx1, sx2, sx3, sx4, sx5, sx6, tf50, ev3_hold, sxo, sxc, sxp, sxq, sxr, sxs, sxl, sxm, simprocAttr, dn]
  refine CallOb.pureH (fun w' hp => hse _ w' hp) ?_
  rintro q N rfl
  refine ⟨?_⟩
  simp (config := { maxSteps := 4000000 }) only [↓sx0, ↓sx1, ↓sx2, ↓sx3, ↓sx4, ↓sx5, ↓sx6, sx0, sx1, sx2, sx3, sx4, sx5, sx6, tf50, ev3_hold, sxo, sxc, sxp, sxq, sxr, sxs, sxl, sxm, simprocAttr]
  refine loop_constH [] (HImp.nil _ _) [(2, 5), (8, 19)] (fun k : Nat => [(8, I k)]) (fun k H1 => k ≤ K ∧ ∀ S, S < k → 0 ≤ M S) (fun k => K - k) 0 ?_ ⟨Nat.zero_le _, fun S h => by omega⟩ ?_
  · simp (config := { maxSteps := 4000000 }) only [↓sx0, ↓sx1, ↓sx2, ↓sx3, ↓sx4, ↓sx5, ↓sx6, sx0, sx1, sx2, sx3, sx4, sx5, sx6, tf50, ev3_hold, sxo, sxc, sxp, sxq, sxr, sxs, sxl, sxm, simprocAttr]
    try simp
  rintro k H1 g1 ⟨hk, hall⟩
  by_cases hkn : k = K
  · have e7 : ((k : Int) < (K : Int)) = False := eq_false (by omega)
    refine ⟨?_⟩
    simp (config := { maxSteps := 4000000 }) only [↓sx0, ↓sx1, ↓sx2, ↓sx3, ↓sx4, ↓sx5, ↓sx6, sx0, sx1, sx2, sx3, sx4, sx5, sx6, tf50, ev3_hold, sxo, sxc, sxp, sxq, sxr, sxs, sxl, sxm, simprocAttr, e7]
    exact ⟨true, rfl, fun _ S hS => hall S (by omega), fun _ => rfl⟩
  have e7 : ((k : Int) < (K : Int)) = True := eq_true (by omega)
  have e8 : wr (k + 1) = ((k + 1 : Nat) : Int) := (wrap_id (by omega)).trans (by omega)
  have hsk := hspN k
  by_cases hm : M k < 0
  · have f1 : (M k < 0) = True := eq_true hm
    refine ⟨?_⟩
    simp (config := { maxSteps := 4000000 }) only [↓sx0, ↓sx1, ↓sx2, ↓sx3, ↓sx4, ↓sx5, ↓sx6, sx0, sx1, sx2, sx3, sx4, sx5, sx6, tf50, ev3_hold, sxo, sxc, sxp, sxq, sxr, sxs, sxl, sxm, simprocAttr, e7, dn]
    refine CallOb.pureH (fun w' hp => hsk _ w' hp) ?_
    rintro q N2 rfl
    refine ⟨?_⟩
    simp (config := { maxSteps := 4000000 }) only [↓sx0, ↓sx1, ↓sx2, ↓sx3, ↓sx4, ↓sx5, ↓sx6, sx0, sx1, sx2, sx3, sx4, sx5, sx6, tf50, ev3_hold, sxo, sxc, sxp, sxq, sxr, sxs, sxl, sxm, simprocAttr, f1]
    exact ⟨false, rfl, fun h => (by cases h), fun h => by have := h k (by omega); omega⟩
  · have f1 : (M k < 0) = False := eq_false hm
    refine ⟨?_⟩
    simp (config := { maxSteps := 4000000 }) only [↓sx0, ↓sx1, ↓sx2, ↓sx3, ↓sx4, ↓sx5, ↓sx6, sx0, sx1, sx2, sx3, sx4, sx5, sx6, tf50, ev3_hold, sxo, sxc, sxp, sxq, sxr, sxs, sxl, sxm, simprocAttr, e7, dn]
    refine CallOb.pureH (fun w' hp => hsk _ w' hp) ?_
    rintro q N2 rfl
    refine ⟨?_⟩
    simp (config := { maxSteps := 4000000 }) only [↓sx0, ↓sx1, ↓sx2, ↓sx3, ↓sx4, ↓sx5, ↓sx6, sx0, sx1, sx2, sx3, sx4, sx5, sx6, tf50, ev3_hold, sxo, sxc, sxp, sxq, sxr, sxs, sxl, sxm, simprocAttr, f1, e8]
    refine ⟨k + 1, _, rfl, HImp.nil _ _, ⟨by omega, fun S hS => ?_⟩, by omega⟩
    by_cases e : S = k
    · subst e
      omega
    · exact hall S (by omega)
end Go.Proofs.YtnbogcpnpcbjgaaGreatDoor

namespace Go.Proofs.YtnbogcpnpcbjgaaGreatDoor
open Go.RowKit Go.SX
set_option maxRecDepth 10000
set_option maxHeartbeats 0
set_option linter.unusedSimpArgs false
set_option linter.unusedVariables false
theorem most_fn (w : World) (vL vN vU : Value) (left need uses : List Int) (hL : Sl w vL 1 (ints left)) (hN : Sl w vN 1 (ints need)) (hU : Sl w vU 1 (ints uses)) (h1 : left.length ≤ 1000) (h2 : need.length ≤ 8) (h3 : need.length ≤ uses.length) (b g : Nat) (hb : b < need.length) (hg : g < left.length) :
    SX.Fn Tryz.prog 51 [.agg #[vL, vN, vU], I b, I g] w (fun _ => False) fun q N => ∃ n, q = I n := by
  have dn : ∀ (g : Nat) (xs : List Value), det0 g xs = none := fun _ _ => rfl
  have hse := fun (H : List HO) w' (hp : Hp ⟨w, fun _ => False⟩ H w') => sets_fn w' vL vN vU need (Sl.hp (w0 := ⟨w, fun _ => False⟩) hN (fun _ _ => id) hp) h2
  have hsp := fun (B : Int) (H : List HO) w' (hp : Hp ⟨w, fun _ => False⟩ H w') => spare_fn w' vL vN vU left need uses (Sl.hp (w0 := ⟨w, fun _ => False⟩) hL (fun _ _ => id) hp) (Sl.hp (w0 := ⟨w, fun _ => False⟩) hN (fun _ _ => id) hp) (Sl.hp (w0 := ⟨w, fun _ => False⟩) hU (fun _ _ => id) hp) h1 (by omega) h3 B
  have hrL := fun H => hL.rd0 H
  have hrN := fun H => hN.rd0 H
  have hrU := fun H => hU.rd0 H
  obtain ⟨aL, nL, cL, rfl⟩ := hL.shape
  obtain ⟨aN, nN, cN, rfl⟩ := hN.shape
  obtain ⟨aU, nU, cU, rfl⟩ := hU.shape
  obtain ⟨y, hy⟩ : ∃ y, need[b]? = some y := ⟨_, List.getElem?_eq_getElem hb⟩
  obtain ⟨u, hu⟩ : ∃ u, uses[b]? = some u := ⟨_, List.getElem?_eq_getElem (by omega)⟩
  obtain ⟨z, hz⟩ : ∃ z, left[g]? = some z := ⟨_, List.getElem?_eq_getElem hg⟩
  have h256 : 2 ^ need.length ≤ 256 := Nat.pow_le_pow_right (n := 2) (by omega) h2
  obtain ⟨K, hK⟩ : ∃ K, 2 ^ need.length = K := ⟨_, rfl⟩
  rw [hK] at h256
  simp only [hK] at hse
  obtain ⟨M, hM⟩ : ∃ M : Nat → Int, ∀ S : Nat, spM left need uses S = M S := ⟨_, fun _ => rfl⟩
  obtain ⟨G, hG⟩ : ∃ G : Nat → Int, ∀ S : Nat, (spA need uses S need.length).2 = G S := ⟨_, fun _ => rfl⟩
  have hspN := fun (k : Nat) => hsp (k : Int)
  simp only [hM, hG] at hspN
  by_cases q1 : bitS .and .i64 (u.fdiv (2 ^ (min g IntKind.i64.bits))) 1 = 0
  · have p1 : (bitS .and .i64 (u.fdiv (2 ^ (min g IntKind.i64.bits))) 1 = 0) = True := eq_true q1
    refine walk [] [] (det0_ok _ _) Tryz.func51 rfl Tryz.ntmps51 res51 (by kernel_rfl) no_facts ?_
    simp (config := { maxSteps := 4000000 }) only [↓sx0, ↓sx1, ↓sx2, ↓sx3, ↓sx4, ↓sx5, ↓sx6, sx0, sx1, sx2, sx3, sx4, sx5, sx6, tf51, ev3_hold, sxo, sxc, sxp, sxq, sxr, sxs, sxl, sxm, simprocAttr]
    refine at_1 (hrU _) i1_len hu rfl fun ad => ?_
    simp (config := { maxSteps := 4000000 }) only [↓sx0, ↓sx1, ↓sx2, ↓sx3, ↓sx4, ↓sx5, ↓sx6, sx0, sx1, sx2, sx3, sx4, sx5, sx6, tf51, ev3_hold, sxo, sxc, sxp, sxq, sxr, sxs, sxl, sxm, simprocAttr, p1]
    first | exact ⟨by omega, _, rfl⟩ | exact ⟨_, rfl⟩ | omega
  have p1 : (bitS .and .i64 (u.fdiv (2 ^ (min g IntKind.i64.bits))) 1 = 0) = False := eq_false q1
  refine walk [] [] (det0_ok _ _) Tryz.func51 rfl Tryz.ntmps51 res51 (by kernel_rfl) no_facts ?_
  simp (config := { maxSteps := 4000000 }) only [↓sx0, ↓sx1, ↓sx2, ↓sx3, ↓sx4, ↓sx5, ↓sx6, sx0, sx1, sx2, sx3, sx4, sx5, sx6, tf51, ev3_hold, sxo, sxc, sxp, sxq, sxr, sxs, sxl, sxm, simprocAttr]
  refine at_1 (hrU _) i1_len hu rfl fun ad => ?_
  simp (config := { maxSteps := 4000000 }) only [↓sx0, ↓sx1, ↓sx2, ↓sx3, ↓sx4, ↓sx5, ↓sx6, sx0, sx1, sx2, sx3, sx4, sx5, sx6, tf51, ev3_hold, sxo, sxc, sxp, sxq, sxr, sxs, sxl, sxm, simprocAttr, p1]
  refine ⟨by omega, ?_⟩
  refine at_1 (hrN _) i1_len hy rfl fun ad => ?_
  simp (config := { maxSteps := 4000000 }) only [↓sx0, ↓sx1, ↓sx2, ↓sx3, ↓sx4, ↓sx5, ↓sx6, sx0, sx1, sx2, sx3, sx4, sx5, sx6, tf51, ev3_hold, sxo, sxc, sxp, sxq, sxr, sxs, sxl, sxm, simprocAttr]
  refine at_1 (hrL _) i1_len hz rfl fun ad => ?_
  simp (config := { maxSteps := 4000000 }) only [↓sx0, ↓sx1, ↓sx2, ↓sx3, ↓sx4, ↓sx5, ↓sx6, sx0, sx1, sx2, sx3, sx4, sx5, sx6, tf51, ev3_hold, sxo, sxc, sxp, sxq, sxr, sxs, sxl, sxm, simprocAttr, dn]
  refine CallOb.pureH (fun w' hp => hse _ w' hp) ?_
  rintro q N rfl
  refine ⟨?_⟩
  simp (config := { maxSteps := 4000000 }) only [↓sx0, ↓sx1, ↓sx2, ↓sx3, ↓sx4, ↓sx5, ↓sx6, sx0, sx1, sx2, sx3, sx4, sx5, sx6, tf51, ev3_hold, sxo, sxc, sxp, sxq, sxr, sxs, sxl, sxm, simprocAttr]
  refine loop_constH [] (HImp.nil _ _) [(7, 10), (33, 55)] (fun s : Nat × Int => [(7, I s.2), (33, I s.1)]) (fun s H1 => s.1 ≤ K) (fun s => K - s.1) (0, min y z) ?_ (Nat.zero_le _) ?_
  · simp (config := { maxSteps := 4000000 }) only [↓sx0, ↓sx1, ↓sx2, ↓sx3, ↓sx4, ↓sx5, ↓sx6, sx0, sx1, sx2, sx3, sx4, sx5, sx6, tf51, ev3_hold, sxo, sxc, sxp, sxq, sxr, sxs, sxl, sxm, simprocAttr]
    try exact ⟨rfl, rfl⟩
  rintro ⟨k, n⟩ H1 g1 hk
  simp only [] at hk
  by_cases hkn : k = K
  · have e7 : ((k : Int) < (K : Int)) = False := eq_false (by omega)
    refine ⟨?_⟩
    simp (config := { maxSteps := 4000000 }) only [↓sx0, ↓sx1, ↓sx2, ↓sx3, ↓sx4, ↓sx5, ↓sx6, sx0, sx1, sx2, sx3, sx4, sx5, sx6, tf51, ev3_hold, sxo, sxc, sxp, sxq, sxr, sxs, sxl, sxm, simprocAttr, e7]
    try exact ⟨_, rfl⟩
  have e7 : ((k : Int) < (K : Int)) = True := eq_true (by omega)
  have e8 : wr (k + 1) = ((k + 1 : Nat) : Int) := (wrap_id (by omega)).trans (by omega)
  have hsk := hspN k
  by_cases q2 : bitS .and .i64 ((k : Int).fdiv (2 ^ (min b IntKind.i64.bits))) 1 = 1
  · have p2 : (bitS .and .i64 ((k : Int).fdiv (2 ^ (min b IntKind.i64.bits))) 1 = 1) = True := eq_true q2
    refine ⟨?_⟩
    simp (config := { maxSteps := 4000000 }) only [↓sx0, ↓sx1, ↓sx2, ↓sx3, ↓sx4, ↓sx5, ↓sx6, sx0, sx1, sx2, sx3, sx4, sx5, sx6, tf51, ev3_hold, sxo, sxc, sxp, sxq, sxr, sxs, sxl, sxm, simprocAttr, e7, p2, e8]
    exact ⟨by omega, (k + 1, n), _, ⟨rfl, rfl⟩, HImp.refl _ _, by simp only []; omega, by simp only []; omega⟩
  have p2 : (bitS .and .i64 ((k : Int).fdiv (2 ^ (min b IntKind.i64.bits))) 1 = 1) = False := eq_false q2
  by_cases q3 : bitS .and .i64 ((G k).fdiv (2 ^ (min g IntKind.i64.bits))) 1 = 1
  · have p3 : (bitS .and .i64 ((G k).fdiv (2 ^ (min g IntKind.i64.bits))) 1 = 1) = True := eq_true q3
    refine ⟨?_⟩
    simp (config := { maxSteps := 4000000 }) only [↓sx0, ↓sx1, ↓sx2, ↓sx3, ↓sx4, ↓sx5, ↓sx6, sx0, sx1, sx2, sx3, sx4, sx5, sx6, tf51, ev3_hold, sxo, sxc, sxp, sxq, sxr, sxs, sxl, sxm, simprocAttr, e7, p2]
    refine ⟨by omega, ?_⟩
    simp (config := { maxSteps := 4000000 }) only [↓sx0, ↓sx1, ↓sx2, ↓sx3, ↓sx4, ↓sx5, ↓sx6, sx0, sx1, sx2, sx3, sx4, sx5, sx6, tf51, ev3_hold, sxo, sxc, sxp, sxq, sxr, sxs, sxl, sxm, simprocAttr, dn]
    refine CallOb.pureH (fun w' hp => hsk _ w' hp) ?_
    rintro q N2 rfl
    refine ⟨?_⟩
    simp (config := { maxSteps := 4000000 }) only [↓sx0, ↓sx1, ↓sx2, ↓sx3, ↓sx4, ↓sx5, ↓sx6, sx0, sx1, sx2, sx3, sx4, sx5, sx6, tf51, ev3_hold, sxo, sxc, sxp, sxq, sxr, sxs, sxl, sxm, simprocAttr, p3, e8]
    exact ⟨by omega, (k + 1, _), _, ⟨rfl, rfl⟩, HImp.refl _ _, by simp only []; omega, by simp only []; omega⟩
  · have p3 : (bitS .and .i64 ((G k).fdiv (2 ^ (min g IntKind.i64.bits))) 1 = 1) = False := eq_false q3
    refine ⟨?_⟩
    simp (config := { maxSteps := 4000000 }) only [↓sx0, ↓sx1, ↓sx2, ↓sx3, ↓sx4, ↓sx5, ↓sx6, sx0, sx1, sx2, sx3, sx4, sx5, sx6, tf51, ev3_hold, sxo, sxc, sxp, sxq, sxr, sxs, sxl, sxm, simprocAttr, e7, p2]
    refine ⟨by omega, ?_⟩
    simp (config := { maxSteps := 4000000 }) only [↓sx0, ↓sx1, ↓sx2, ↓sx3, ↓sx4, ↓sx5, ↓sx6, sx0, sx1, sx2, sx3, sx4, sx5, sx6, tf51, ev3_hold, sxo, sxc, sxp, sxq, sxr, sxs, sxl, sxm, simprocAttr, dn]
    refine CallOb.pureH (fun w' hp => hsk _ w' hp) ?_
    rintro q N2 rfl
    refine ⟨?_⟩
    simp (config := { maxSteps := 4000000 }) only [↓sx0, ↓sx1, ↓sx2, ↓sx3, ↓sx4, ↓sx5, ↓sx6, sx0, sx1, sx2, sx3, sx4, sx5, sx6, tf51, ev3_hold, sxo, sxc, sxp, sxq, sxr, sxs, sxl, sxm, simprocAttr, p3, e8]
    exact ⟨by omega, (k + 1, _), _, ⟨rfl, rfl⟩, HImp.refl _ _, by simp only []; omega, by simp only []; omega⟩
end Go.Proofs.YtnbogcpnpcbjgaaGreatDoor

namespace Go.Proofs.YtnbogcpnpcbjgaaGreatDoor
open Go.RowKit Go.SX
set_option maxRecDepth 10000
set_option maxHeartbeats 0
set_option linter.unusedSimpArgs false
set_option linter.unusedVariables false
def ldc (x : Int × Int × Int) : List Value := [I x.1, I x.2.1, I x.2.2]
theorem ldc_len (x : Int × Int × Int) : (ldc x).length = 3 := rfl
theorem ldc_one (x : Int × Int × Int) : ∀ y ∈ ldc x, y.oneCell' = true := by simp [ldc, Value.oneCell']
def vL (x : Int × Int × Int) : Value := .agg (ldc x).toArray
theorem vL_inj (a b : Int × Int × Int) (h : vL a = vL b) : a = b := by
  simp only [vL, ldc, Value.agg.injEq] at h
  injection h with h
  simp only [List.cons.injEq, Value.int.injEq, true_and, and_true] at h
  exact Prod.ext h.1 (Prod.ext h.2.1 h.2.2)
theorem indexG_fn (w : World) (v : Value) (l : List (Int × Int × Int)) (g : Nat) (cap : List Value) (p : Int × Int × Int → Bool) (hs : Sl w v 3 (cat ldc l)) (hb : l.length ≤ 1000) (hp : Tells w (fun _ => False) vL g cap p) :
    SX.Fn Tryz.prog 173 [v, .func (.func g) [].toArray cap.toArray] w (fun _ => False) fun r N => ∃ n : Int, r = I n ∧ decide (n ≥ 0) = l.any p := by
  obtain ⟨a, n, c, rfl⟩ := hs.shape
  have hn := hs.le ldc_len (by omega)
  have hr := hs.rd0
  have hT := hp.1
  have hd := fun m => detP_eq vL_inj g cap p m
  refine walk [] [] (detP_ok vL_inj hp) Tryz.func173 rfl Tryz.ntmps173 res173 (by kernel_rfl) no_facts ?_
  simp (config := { maxSteps := 4000000 }) only [↓sx0, ↓sx1, ↓sx2, ↓sx3, ↓sx4, ↓sx5, ↓sx6, sx0, sx1, sx2, sx3, sx4, sx5, sx6, tf173, ev3_hold, sxo, sxc, sxp, sxq, sxr, sxs, sxl, sxm, simprocAttr]
  refine loop_const [(4, 5), (8, 18)] (fun k : Nat => [(8, I k)]) (fun k H1 => H1 = [] ∧ k ≤ n ∧ l.any p = (l.drop k).any p) (fun k => n - k) 0 ?_ ⟨rfl, Nat.zero_le _, rfl⟩ ?_
  · simp (config := { maxSteps := 4000000 }) only [↓sx0, ↓sx1, ↓sx2, ↓sx3, ↓sx4, ↓sx5, ↓sx6, sx0, sx1, sx2, sx3, sx4, sx5, sx6, tf173, ev3_hold, sxo, sxc, sxp, sxq, sxr, sxs, sxl, sxm, simprocAttr]
    try simp
  · rintro k H1 g1 ⟨rfl, hk, ht⟩
    by_cases hkn : k = n
    · subst hkn
      have e7 : ((k : Int) < (k : Int)) = False := eq_false (by omega)
      simp (config := { maxSteps := 4000000 }) only [↓sx0, ↓sx1, ↓sx2, ↓sx3, ↓sx4, ↓sx5, ↓sx6, sx0, sx1, sx2, sx3, sx4, sx5, sx6, tf173, ev3_hold, sxo, sxc, sxp, sxq, sxr, sxs, sxl, sxm, simprocAttr, e7]
      refine ⟨-1, rfl, ?_⟩
      rw [ht, List.drop_of_length_le (by omega)]
      rfl
    · have e7 : ((k : Int) < (n : Int)) = True := eq_true (by omega)
      have e2 : wr (k + 1) = ((k + 1 : Nat) : Int) := (wrap_id (by omega)).trans (by omega)
      have hkl : k < l.length := by omega
      have hdk := hd l[k]
      rw [vL] at hdk
      simp (config := { maxSteps := 4000000 }) only [↓sx0, ↓sx1, ↓sx2, ↓sx3, ↓sx4, ↓sx5, ↓sx6, sx0, sx1, sx2, sx3, sx4, sx5, sx6, tf173, ev3_hold, sxo, sxc, sxp, sxq, sxr, sxs, sxl, sxm, simprocAttr, e7]
      refine amid (at_n (hr _) ldc_len (by omega) (List.getElem?_eq_getElem hkl) fun ad => ?_)
      rw [List.drop_eq_getElem_cons hkl, List.any_cons] at ht
      simp (config := { maxSteps := 4000000 }) only [↓sx0, ↓sx1, ↓sx2, ↓sx3, ↓sx4, ↓sx5, ↓sx6, sx0, sx1, sx2, sx3, sx4, sx5, sx6, tf173, ev3_hold, sxo, sxc, sxp, sxq, sxr, sxs, sxl, sxm, simprocAttr, e2, hT, hdk]
      refine ⟨fun h1 => ⟨k, rfl, ?_⟩, fun h1 => ⟨k + 1, _, rfl, HImp.refl _ _, ⟨rfl, by omega, ?_⟩, by omega⟩⟩
      · rw [ht, h1, Bool.true_or, decide_eq_true_iff]
        omega
      · rw [ht, h1, Bool.false_or]
theorem containsG_fn (w : World) (v : Value) (l : List (Int × Int × Int)) (g : Nat) (cap : List Value) (p : Int × Int × Int → Bool) (hs : Sl w v 3 (cat ldc l)) (hb : l.length ≤ 1000) (hp : Tells w (fun _ => False) vL g cap p) :
    SX.Fn Tryz.prog 144 [v, .func (.func g) [].toArray cap.toArray] w (fun _ => False) fun r N => r = .bool (l.any p) := by
  obtain ⟨a, n, c, rfl⟩ := hs.shape
  refine walk [] [] (det0_ok _ _) Tryz.func144 rfl Tryz.ntmps144 res144 (by kernel_rfl) no_facts ?_
  simp (config := { maxSteps := 4000000 }) only [↓sx0, ↓sx1, ↓sx2, ↓sx3, ↓sx4, ↓sx5, ↓sx6, sx0, sx1, sx2, sx3, sx4, sx5, sx6, tf144, ev3_hold, sxo, sxc, sxp, sxq, sxr, sxs, sxl, sxm, simprocAttr, det0]
  refine CallOb.pure (fun w' hp' => indexG_fn w' _ l g cap p (hs.hp (fun _ _ => id) hp') hb ⟨hp.1, fun w2 hk => hp.2 w2 (hk.into hp'.ext fun _ h => h.elim)⟩) ?_
  rintro r N ⟨m, rfl, hm⟩
  rw [← hm]
  simp (config := { maxSteps := 4000000 }) only [↓sx0, ↓sx1, ↓sx2, ↓sx3, ↓sx4, ↓sx5, ↓sx6, sx0, sx1, sx2, sx3, sx4, sx5, sx6, tf144, ev3_hold, sxo, sxc, sxp, sxq, sxr, sxs, sxl, sxm, simprocAttr]
theorem indexB_fn (w : World) (v : Value) (l : List (Int × Int × Int)) (g : Nat) (cap : List Value) (p : Int × Int × Int → Bool) (hs : Sl w v 3 (cat ldc l)) (hb : l.length ≤ 1000) (hp : Tells w (fun _ => False) vL g cap p) :
    SX.Fn Tryz.prog 174 [v, .func (.func g) [].toArray cap.toArray] w (fun _ => False) fun r N => ∃ n : Int, r = I n ∧ decide (n ≥ 0) = l.any p := by
  obtain ⟨a, n, c, rfl⟩ := hs.shape
  have hn := hs.le ldc_len (by omega)
  have hr := hs.rd0
  have hT := hp.1
  have hd := fun m => detP_eq vL_inj g cap p m
  refine walk [] [] (detP_ok vL_inj hp) Tryz.func174 rfl Tryz.ntmps174 res174 (by kernel_rfl) no_facts ?_
  simp (config := { maxSteps := 4000000 }) only [↓sx0, ↓sx1, ↓sx2, ↓sx3, ↓sx4, ↓sx5, ↓sx6, sx0, sx1, sx2, sx3, sx4, sx5, sx6, tf174, ev3_hold, sxo, sxc, sxp, sxq, sxr, sxs, sxl, sxm, simprocAttr]
  refine loop_const [(4, 5), (8, 18)] (fun k : Nat => [(8, I k)]) (fun k H1 => H1 = [] ∧ k ≤ n ∧ l.any p = (l.drop k).any p) (fun k => n - k) 0 ?_ ⟨rfl, Nat.zero_le _, rfl⟩ ?_
  · simp (config := { maxSteps := 4000000 }) only [↓sx0, ↓sx1, ↓sx2, ↓sx3, ↓sx4, ↓sx5, ↓sx6, sx0, sx1, sx2, sx3, sx4, sx5, sx6, tf174, ev3_hold, sxo, sxc, sxp, sxq, sxr, sxs, sxl, sxm, simprocAttr]
    try simp
  · rintro k H1 g1 ⟨rfl, hk, ht⟩
    by_cases hkn : k = n
    · subst hkn
      have e7 : ((k : Int) < (k : Int)) = False := eq_false (by omega)
      simp (config := { maxSteps := 4000000 }) only [↓sx0, ↓sx1, ↓sx2, ↓sx3, ↓sx4, ↓sx5, ↓sx6, sx0, sx1, sx2, sx3, sx4, sx5, sx6, tf174, ev3_hold, sxo, sxc, sxp, sxq, sxr, sxs, sxl, sxm, simprocAttr, e7]
      refine ⟨-1, rfl, ?_⟩
      rw [ht, List.drop_of_length_le (by omega)]
      rfl
    · have e7 : ((k : Int) < (n : Int)) = True := eq_true (by omega)
      have e2 : wr (k + 1) = ((k + 1 : Nat) : Int) := (wrap_id (by omega)).trans (by omega)
      have hkl : k < l.length := by omega
      have hdk := hd l[k]
      rw [vL] at hdk
      simp (config := { maxSteps := 4000000 }) only [↓sx0, ↓sx1, ↓sx2, ↓sx3, ↓sx4, ↓sx5, ↓sx6, sx0, sx1, sx2, sx3, sx4, sx5, sx6, tf174, ev3_hold, sxo, sxc, sxp, sxq, sxr, sxs, sxl, sxm, simprocAttr, e7]
      refine amid (at_n (hr _) ldc_len (by omega) (List.getElem?_eq_getElem hkl) fun ad => ?_)
      rw [List.drop_eq_getElem_cons hkl, List.any_cons] at ht
      simp (config := { maxSteps := 4000000 }) only [↓sx0, ↓sx1, ↓sx2, ↓sx3, ↓sx4, ↓sx5, ↓sx6, sx0, sx1, sx2, sx3, sx4, sx5, sx6, tf174, ev3_hold, sxo, sxc, sxp, sxq, sxr, sxs, sxl, sxm, simprocAttr, e2, hT, hdk]
      refine ⟨fun h1 => ⟨k, rfl, ?_⟩, fun h1 => ⟨k + 1, _, rfl, HImp.refl _ _, ⟨rfl, by omega, ?_⟩, by omega⟩⟩
      · rw [ht, h1, Bool.true_or, decide_eq_true_iff]
        omega
      · rw [ht, h1, Bool.false_or]
theorem containsB_fn (w : World) (v : Value) (l : List (Int × Int × Int)) (g : Nat) (cap : List Value) (p : Int × Int × Int → Bool) (hs : Sl w v 3 (cat ldc l)) (hb : l.length ≤ 1000) (hp : Tells w (fun _ => False) vL g cap p) :
    SX.Fn Tryz.prog 145 [v, .func (.func g) [].toArray cap.toArray] w (fun _ => False) fun r N => r = .bool (l.any p) := by
  obtain ⟨a, n, c, rfl⟩ := hs.shape
  refine walk [] [] (det0_ok _ _) Tryz.func145 rfl Tryz.ntmps145 res145 (by kernel_rfl) no_facts ?_
  simp (config := { maxSteps := 4000000 }) only [↓sx0, ↓sx1, ↓sx2, ↓sx3, ↓sx4, ↓sx5, ↓sx6, sx0, sx1, sx2, sx3, sx4, sx5, sx6, tf145, ev3_hold, sxo, sxc, sxp, sxq, sxr, sxs, sxl, sxm, simprocAttr, det0]
  refine CallOb.pure (fun w' hp' => indexB_fn w' _ l g cap p (hs.hp (fun _ _ => id) hp') hb ⟨hp.1, fun w2 hk => hp.2 w2 (hk.into hp'.ext fun _ h => h.elim)⟩) ?_
  rintro r N ⟨m, rfl, hm⟩
  rw [← hm]
  simp (config := { maxSteps := 4000000 }) only [↓sx0, ↓sx1, ↓sx2, ↓sx3, ↓sx4, ↓sx5, ↓sx6, sx0, sx1, sx2, sx3, sx4, sx5, sx6, tf145, ev3_hold, sxo, sxc, sxp, sxq, sxr, sxs, sxl, sxm, simprocAttr]
def bad3 (m : Int) (x : Int × Int × Int) : Bool := !(decide (0 ≤ x.1 ∧ x.1 ≤ m) && decide (0 ≤ x.2.1 ∧ x.2.1 ≤ 99999) && decide (0 ≤ x.2.2 ∧ x.2.2 ≤ 1000000))
theorem badG_fn (w : World) (x : Int × Int × Int) : SX.Fn Tryz.prog 142 [vL x] w (fun _ => False) fun v N => v = .bool (bad3 255 x) := by
  have dn : ∀ (g : Nat) (xs : List Value), det0 g xs = none := fun _ _ => rfl
  have h1 := fun w' => gwithin_fn w' x.1 0 255
  have h2 := fun w' => gwithin_fn w' x.2.1 0 99999
  have h3 := fun w' => gwithin_fn w' x.2.2 0 1000000
  unfold vL ldc bad3
  cases b1 : decide (0 ≤ x.1 ∧ x.1 ≤ 255) with
  | false =>
    simp only [b1] at h1
    refine walk [] [] (det0_ok _ _) Tryz.func142 rfl Tryz.ntmps142 res142 (by kernel_rfl) no_facts ?_
    simp (config := { maxSteps := 4000000 }) only [↓sx0, ↓sx1, ↓sx2, ↓sx3, ↓sx4, ↓sx5, ↓sx6, sx0, sx1, sx2, sx3, sx4, sx5, sx6, tf142, ev3_hold, sxo, sxc, sxp, sxq, sxr, sxs, sxl, sxm, simprocAttr, dn]
    refine CallOb.pureH (fun w' hp => h1 w') ?_
    rintro q N rfl
    refine ⟨?_⟩
    simp (config := { maxSteps := 4000000 }) only [↓sx0, ↓sx1, ↓sx2, ↓sx3, ↓sx4, ↓sx5, ↓sx6, sx0, sx1, sx2, sx3, sx4, sx5, sx6, tf142, ev3_hold, sxo, sxc, sxp, sxq, sxr, sxs, sxl, sxm, simprocAttr]
    try simp
  | true =>
  simp only [b1] at h1
  cases b2 : decide (0 ≤ x.2.1 ∧ x.2.1 ≤ 99999) with
  | false =>
    simp only [b2] at h2
    refine walk [] [] (det0_ok _ _) Tryz.func142 rfl Tryz.ntmps142 res142 (by kernel_rfl) no_facts ?_
    simp (config := { maxSteps := 4000000 }) only [↓sx0, ↓sx1, ↓sx2, ↓sx3, ↓sx4, ↓sx5, ↓sx6, sx0, sx1, sx2, sx3, sx4, sx5, sx6, tf142, ev3_hold, sxo, sxc, sxp, sxq, sxr, sxs, sxl, sxm, simprocAttr, dn]
    refine CallOb.pureH (fun w' hp => h1 w') ?_
    rintro q N rfl
    refine ⟨?_⟩
    simp (config := { maxSteps := 4000000 }) only [↓sx0, ↓sx1, ↓sx2, ↓sx3, ↓sx4, ↓sx5, ↓sx6, sx0, sx1, sx2, sx3, sx4, sx5, sx6, tf142, ev3_hold, sxo, sxc, sxp, sxq, sxr, sxs, sxl, sxm, simprocAttr, dn]
    refine CallOb.pureH (fun w' hp => h2 w') ?_
    rintro q N2 rfl
    refine ⟨?_⟩
    simp (config := { maxSteps := 4000000 }) only [↓sx0, ↓sx1, ↓sx2, ↓sx3, ↓sx4, ↓sx5, ↓sx6, sx0, sx1, sx2, sx3, sx4, sx5, sx6, tf142, ev3_hold, sxo, sxc, sxp, sxq, sxr, sxs, sxl, sxm, simprocAttr]
    try simp
  | true =>
    simp only [b2] at h2
    refine walk [] [] (det0_ok _ _) Tryz.func142 rfl Tryz.ntmps142 res142 (by kernel_rfl) no_facts ?_
    simp (config := { maxSteps := 4000000 }) only [↓sx0, ↓sx1, ↓sx2, ↓sx3, ↓sx4, ↓sx5, ↓sx6, sx0, sx1, sx2, sx3, sx4, sx5, sx6, tf142, ev3_hold, sxo, sxc, sxp, sxq, sxr, sxs, sxl, sxm, simprocAttr, dn]
    refine CallOb.pureH (fun w' hp => h1 w') ?_
    rintro q N rfl
    refine ⟨?_⟩
    simp (config := { maxSteps := 4000000 }) only [↓sx0, ↓sx1, ↓sx2, ↓sx3, ↓sx4, ↓sx5, ↓sx6, sx0, sx1, sx2, sx3, sx4, sx5, sx6, tf142, ev3_hold, sxo, sxc, sxp, sxq, sxr, sxs, sxl, sxm, simprocAttr, dn]
    refine CallOb.pureH (fun w' hp => h2 w') ?_
    rintro q N2 rfl
    refine ⟨?_⟩
    simp (config := { maxSteps := 4000000 }) only [↓sx0, ↓sx1, ↓sx2, ↓sx3, ↓sx4, ↓sx5, ↓sx6, sx0, sx1, sx2, sx3, sx4, sx5, sx6, tf142, ev3_hold, sxo, sxc, sxp, sxq, sxr, sxs, sxl, sxm, simprocAttr, dn]
    refine CallOb.pureH (fun w' hp => h3 w') ?_
    rintro q N3 rfl
    refine ⟨?_⟩
    simp (config := { maxSteps := 4000000 }) only [↓sx0, ↓sx1, ↓sx2, ↓sx3, ↓sx4, ↓sx5, ↓sx6, sx0, sx1, sx2, sx3, sx4, sx5, sx6, tf142, ev3_hold, sxo, sxc, sxp, sxq, sxr, sxs, sxl, sxm, simprocAttr]
    try simp
theorem badB_fn (w : World) (x : Int × Int × Int) : SX.Fn Tryz.prog 143 [vL x] w (fun _ => False) fun v N => v = .bool (bad3 7 x) := by
  have dn : ∀ (g : Nat) (xs : List Value), det0 g xs = none := fun _ _ => rfl
  have h1 := fun w' => gwithin_fn w' x.1 0 7
  have h2 := fun w' => gwithin_fn w' x.2.1 0 99999
  have h3 := fun w' => gwithin_fn w' x.2.2 0 1000000
  unfold vL ldc bad3
  cases b1 : decide (0 ≤ x.1 ∧ x.1 ≤ 7) with
  | false =>
    simp only [b1] at h1
    refine walk [] [] (det0_ok _ _) Tryz.func143 rfl Tryz.ntmps143 res143 (by kernel_rfl) no_facts ?_
    simp (config := { maxSteps := 4000000 }) only [↓sx0, ↓sx1, ↓sx2, ↓sx3, ↓sx4, ↓sx5, ↓sx6, sx0, sx1, sx2, sx3, sx4, sx5, sx6, tf143, ev3_hold, sxo, sxc, sxp, sxq, sxr, sxs, sxl, sxm, simprocAttr, dn]
    refine CallOb.pureH (fun w' hp => h1 w') ?_
    rintro q N rfl
    refine ⟨?_⟩
    simp (config := { maxSteps := 4000000 }) only [↓sx0, ↓sx1, ↓sx2, ↓sx3, ↓sx4, ↓sx5, ↓sx6, sx0, sx1, sx2, sx3, sx4, sx5, sx6, tf143, ev3_hold, sxo, sxc, sxp, sxq, sxr, sxs, sxl, sxm, simprocAttr]
    try simp
  | true =>
  simp only [b1] at h1
  cases b2 : decide (0 ≤ x.2.1 ∧ x.2.1 ≤ 99999) with
  | false =>
    simp only [b2] at h2
    refine walk [] [] (det0_ok _ _) Tryz.func143 rfl Tryz.ntmps143 res143 (by kernel_rfl) no_facts ?_
    simp (config := { maxSteps := 4000000 }) only [↓sx0, ↓sx1, ↓sx2, ↓sx3, ↓sx4, ↓sx5, ↓sx6, sx0, sx1, sx2, sx3, sx4, sx5, sx6, tf143, ev3_hold, sxo, sxc, sxp, sxq, sxr, sxs, sxl, sxm, simprocAttr, dn]
    refine CallOb.pureH (fun w' hp => h1 w') ?_
    rintro q N rfl
    refine ⟨?_⟩
    simp (config := { maxSteps := 4000000 }) only [↓sx0, ↓sx1, ↓sx2, ↓sx3, ↓sx4, ↓sx5, ↓sx6, sx0, sx1, sx2, sx3, sx4, sx5, sx6, tf143, ev3_hold, sxo, sxc, sxp, sxq, sxr, sxs, sxl, sxm, simprocAttr, dn]
    refine CallOb.pureH (fun w' hp => h2 w') ?_
    rintro q N2 rfl
    refine ⟨?_⟩
    simp (config := { maxSteps := 4000000 }) only [↓sx0, ↓sx1, ↓sx2, ↓sx3, ↓sx4, ↓sx5, ↓sx6, sx0, sx1, sx2, sx3, sx4, sx5, sx6, tf143, ev3_hold, sxo, sxc, sxp, sxq, sxr, sxs, sxl, sxm, simprocAttr]
    try simp
  | true =>
    simp only [b2] at h2
    refine walk [] [] (det0_ok _ _) Tryz.func143 rfl Tryz.ntmps143 res143 (by kernel_rfl) no_facts ?_
    simp (config := { maxSteps := 4000000 }) only [↓sx0, ↓sx1, ↓sx2, ↓sx3, ↓sx4, ↓sx5, ↓sx6, sx0, sx1, sx2, sx3, sx4, sx5, sx6, tf143, ev3_hold, sxo, sxc, sxp, sxq, sxr, sxs, sxl, sxm, simprocAttr, dn]
    refine CallOb.pureH (fun w' hp => h1 w') ?_
    rintro q N rfl
    refine ⟨?_⟩
    simp (config := { maxSteps := 4000000 }) only [↓sx0, ↓sx1, ↓sx2, ↓sx3, ↓sx4, ↓sx5, ↓sx6, sx0, sx1, sx2, sx3, sx4, sx5, sx6, tf143, ev3_hold, sxo, sxc, sxp, sxq, sxr, sxs, sxl, sxm, simprocAttr, dn]
    refine CallOb.pureH (fun w' hp => h2 w') ?_
    rintro q N2 rfl
    refine ⟨?_⟩
    simp (config := { maxSteps := 4000000 }) only [↓sx0, ↓sx1, ↓sx2, ↓sx3, ↓sx4, ↓sx5, ↓sx6, sx0, sx1, sx2, sx3, sx4, sx5, sx6, tf143, ev3_hold, sxo, sxc, sxp, sxq, sxr, sxs, sxl, sxm, simprocAttr, dn]
    refine CallOb.pureH (fun w' hp => h3 w') ?_
    rintro q N3 rfl
    refine ⟨?_⟩
    simp (config := { maxSteps := 4000000 }) only [↓sx0, ↓sx1, ↓sx2, ↓sx3, ↓sx4, ↓sx5, ↓sx6, sx0, sx1, sx2, sx3, sx4, sx5, sx6, tf143, ev3_hold, sxo, sxc, sxp, sxq, sxr, sxs, sxl, sxm, simprocAttr]
    try simp
theorem tellsG (w : World) : Tells w (fun _ => False) vL 142 [] (bad3 255) := ⟨Tryz.call142, fun w' _ a => det_of_fn (badG_fn w' a)⟩
theorem tellsB (w : World) : Tells w (fun _ => False) vL 143 [] (bad3 7) := ⟨Tryz.call143, fun w' _ a => det_of_fn (badB_fn w' a)⟩
def bookB (gs bs : List (Int × Int × Int)) : Bool := decide (gs.length ≤ 10) && (decide (bs.length ≤ 8) && (!gs.any (bad3 255) && !bs.any (bad3 7)))
theorem gcheck_fn (w : World) (vG vB : Value) (gs bs : List (Int × Int × Int)) (hG : Sl w vG 3 (cat ldc gs)) (hB : Sl w vB 3 (cat ldc bs)) : SX.Fn Tryz.prog 89 [.agg #[vG, vB]] w (fun _ => False) fun q N => q = I (if bookB gs bs then 0 else 110) := by
  have dn : ∀ (g : Nat) (xs : List Value), det0 g xs = none := fun _ _ => rfl
  have hcG := fun (hl : gs.length ≤ 1000) (H : List HO) w' (hp : Hp ⟨w, fun _ => False⟩ H w') => containsG_fn w' vG gs 142 [] (bad3 255) (Sl.hp (w0 := ⟨w, fun _ => False⟩) hG (fun _ _ => id) hp) hl (tellsG w')
  have hcB := fun (hl : bs.length ≤ 1000) (H : List HO) w' (hp : Hp ⟨w, fun _ => False⟩ H w') => containsB_fn w' vB bs 143 [] (bad3 7) (Sl.hp (w0 := ⟨w, fun _ => False⟩) hB (fun _ _ => id) hp) hl (tellsB w')
  obtain ⟨aG, nG, cG, rfl⟩ := hG.shape
  obtain ⟨aB, nB, cB, rfl⟩ := hB.shape
  have hnG := hG.le ldc_len (by omega)
  have hnB := hB.le ldc_len (by omega)
  subst hnG hnB
  unfold bookB
  by_cases h1 : gs.length ≤ 10
  case neg =>
    have e1 : ((gs.length : Int) > 10) = True := eq_true (by omega)
    rw [decide_eq_false h1]
    refine walk [] [] (det0_ok _ _) Tryz.func89 rfl Tryz.ntmps89 res89 (by kernel_rfl) no_facts ?_
    simp (config := { maxSteps := 4000000 }) only [↓sx0, ↓sx1, ↓sx2, ↓sx3, ↓sx4, ↓sx5, ↓sx6, sx0, sx1, sx2, sx3, sx4, sx5, sx6, tf89, ev3_hold, sxo, sxc, sxp, sxq, sxr, sxs, sxl, sxm, simprocAttr, e1]
    try simp
  have e1 : ((gs.length : Int) > 10) = False := eq_false (by omega)
  rw [decide_eq_true h1]
  by_cases h2 : bs.length ≤ 8
  case neg =>
    have e2 : ((bs.length : Int) > 8) = True := eq_true (by omega)
    rw [decide_eq_false h2]
    refine walk [] [] (det0_ok _ _) Tryz.func89 rfl Tryz.ntmps89 res89 (by kernel_rfl) no_facts ?_
    simp (config := { maxSteps := 4000000 }) only [↓sx0, ↓sx1, ↓sx2, ↓sx3, ↓sx4, ↓sx5, ↓sx6, sx0, sx1, sx2, sx3, sx4, sx5, sx6, tf89, ev3_hold, sxo, sxc, sxp, sxq, sxr, sxs, sxl, sxm, simprocAttr, e1, e2]
    try simp
  have e2 : ((bs.length : Int) > 8) = False := eq_false (by omega)
  rw [decide_eq_true h2]
  have hcG := hcG (by omega)
  have hcB := hcB (by omega)
  cases b1 : gs.any (bad3 255) with
  | true =>
    simp only [b1] at hcG
    refine walk [] [] (det0_ok _ _) Tryz.func89 rfl Tryz.ntmps89 res89 (by kernel_rfl) no_facts ?_
    simp (config := { maxSteps := 4000000 }) only [↓sx0, ↓sx1, ↓sx2, ↓sx3, ↓sx4, ↓sx5, ↓sx6, sx0, sx1, sx2, sx3, sx4, sx5, sx6, tf89, ev3_hold, sxo, sxc, sxp, sxq, sxr, sxs, sxl, sxm, simprocAttr, e1, e2, dn]
    refine CallOb.pureH (fun w' hp => hcG _ w' hp) ?_
    rintro q N rfl
    refine ⟨?_⟩
    simp (config := { maxSteps := 4000000 }) only [↓sx0, ↓sx1, ↓sx2, ↓sx3, ↓sx4, ↓sx5, ↓sx6, sx0, sx1, sx2, sx3, sx4, sx5, sx6, tf89, ev3_hold, sxo, sxc, sxp, sxq, sxr, sxs, sxl, sxm, simprocAttr]
    try simp
  | false =>
  simp only [b1] at hcG
  cases b2 : bs.any (bad3 7) with
  | true =>
    simp only [b2] at hcB
    refine walk [] [] (det0_ok _ _) Tryz.func89 rfl Tryz.ntmps89 res89 (by kernel_rfl) no_facts ?_
    simp (config := { maxSteps := 4000000 }) only [↓sx0, ↓sx1, ↓sx2, ↓sx3, ↓sx4, ↓sx5, ↓sx6, sx0, sx1, sx2, sx3, sx4, sx5, sx6, tf89, ev3_hold, sxo, sxc, sxp, sxq, sxr, sxs, sxl, sxm, simprocAttr, e1, e2, dn]
    refine CallOb.pureH (fun w' hp => hcG _ w' hp) ?_
    rintro q N rfl
    refine ⟨?_⟩
    simp (config := { maxSteps := 4000000 }) only [↓sx0, ↓sx1, ↓sx2, ↓sx3, ↓sx4, ↓sx5, ↓sx6, sx0, sx1, sx2, sx3, sx4, sx5, sx6, tf89, ev3_hold, sxo, sxc, sxp, sxq, sxr, sxs, sxl, sxm, simprocAttr, dn]
    refine CallOb.pureH (fun w' hp => hcB _ w' hp) ?_
    rintro q N2 rfl
    refine ⟨?_⟩
    simp (config := { maxSteps := 4000000 }) only [↓sx0, ↓sx1, ↓sx2, ↓sx3, ↓sx4, ↓sx5, ↓sx6, sx0, sx1, sx2, sx3, sx4, sx5, sx6, tf89, ev3_hold, sxo, sxc, sxp, sxq, sxr, sxs, sxl, sxm, simprocAttr]
    try simp
  | false =>
    simp only [b2] at hcB
    refine walk [] [] (det0_ok _ _) Tryz.func89 rfl Tryz.ntmps89 res89 (by kernel_rfl) no_facts ?_
    simp (config := { maxSteps := 4000000 }) only [↓sx0, ↓sx1, ↓sx2, ↓sx3, ↓sx4, ↓sx5, ↓sx6, sx0, sx1, sx2, sx3, sx4, sx5, sx6, tf89, ev3_hold, sxo, sxc, sxp, sxq, sxr, sxs, sxl, sxm, simprocAttr, e1, e2, dn]
    refine CallOb.pureH (fun w' hp => hcG _ w' hp) ?_
    rintro q N rfl
    refine ⟨?_⟩
    simp (config := { maxSteps := 4000000 }) only [↓sx0, ↓sx1, ↓sx2, ↓sx3, ↓sx4, ↓sx5, ↓sx6, sx0, sx1, sx2, sx3, sx4, sx5, sx6, tf89, ev3_hold, sxo, sxc, sxp, sxq, sxr, sxs, sxl, sxm, simprocAttr, dn]
    refine CallOb.pureH (fun w' hp => hcB _ w' hp) ?_
    rintro q N2 rfl
    refine ⟨?_⟩
    simp (config := { maxSteps := 4000000 }) only [↓sx0, ↓sx1, ↓sx2, ↓sx3, ↓sx4, ↓sx5, ↓sx6, sx0, sx1, sx2, sx3, sx4, sx5, sx6, tf89, ev3_hold, sxo, sxc, sxp, sxq, sxr, sxs, sxl, sxm, simprocAttr]
    try simp
end Go.Proofs.YtnbogcpnpcbjgaaGreatDoor

