/- A part of a proof: the symbolic walk and what it shows of single functions. -/
import Derived.Test.YtnbogcpnpcbjgaaGreatDoorSeT
import Derived.Test.YtnbogcpnpcbjgaaGreatDoorH5
set_option linter.all false
namespace Go.Proofs.YtnbogcpnpcbjgaaGreatDoor
open Go.RowKit Go.SX
set_option maxRecDepth 20000
set_option maxHeartbeats 0
set_option linter.unusedSimpArgs false
set_option linter.unusedVariables false
theorem topShops_fn (w : World) (hw : Ways w) (hd : Deb w) (r lst : Int) (vS : Value) (ms : List Mon) (hS : Sl w vS 4 (cat moc ms)) (v : Value) (l : List (Int × Int × Int)) (hS2 : Sl w v 3 (cat ldc l)) (st : Int) : SX.Fn Tryz.prog 5 [.agg #[I r, I lst, vS], v, I st] w (fun _ => False) fun q N => q = .bool true := by
  have dn : ∀ (g : Nat) (xs : List Value), det0 g xs = none := fun _ _ => rfl
  have hlv := fun (H : List HO) w' (hp : Hp ⟨w, fun _ => False⟩ H w') => lives_fn w' (hw.hp hp)
  have hcy := fun (hl : ms.length ≤ 60) (H : List HO) w' (hp : Hp ⟨w, fun _ => False⟩ H w') => rcheckYear_fn w' vS r lst ms (Sl.hp (w0 := ⟨w, fun _ => False⟩) hS (fun _ _ => id) hp) hl
  have hcs := fun (hl : l.length ≤ 12) (H : List HO) w' (hp : Hp ⟨w, fun _ => False⟩ H w') => rcheckShops_fn w' v l (Sl.hp (w0 := ⟨w, fun _ => False⟩) hS2 (fun _ _ => id) hp) hl st
  have hap := fun (H : List HO) w' (hp : Hp ⟨w, fun _ => False⟩ H w') => gappeal_fn w' vS r lst ms (Sl.hp (w0 := ⟨w, fun _ => False⟩) hS (fun _ _ => id) hp)
  have hsh := fun (hl : l.length ≤ 8) (hok : shopsB l st = true) (H : List HO) w' (hp : Hp ⟨w, fun _ => False⟩ H w') => gshops_fn w' (hd.hp hp) v l (Sl.hp (w0 := ⟨w, fun _ => False⟩) hS2 (fun _ _ => id) hp) hl st hok
  have hr := fun H => hS2.rd0 H
  have hS0 := hS
  obtain ⟨aS, nS, cS, rfl⟩ := hS.shape
  have hnS := hS.le moc_len (by omega)
  subst hnS
  obtain ⟨a, n, c, rfl⟩ := hS2.shape
  have hn := hS2.le ldc_len (by omega)
  subst hn
  by_cases h60 : ms.length > 60
  · have e1 : ((ms.length : Int) > 60) = True := eq_true (by omega)
    refine walk [] [] (det0_ok _ _) Tryz.func5 rfl Tryz.ntmps5 res5 (by kernel_rfl) no_facts ?_
    simp (config := { maxSteps := 4000000 }) only [↓sx0, ↓sx1, ↓sx2, ↓sx3, ↓sx4, ↓sx5, ↓sx6, sx0, sx1, sx2, sx3, sx4, sx5, sx6, tf5, ev3_hold, sxo, sxc, sxp, sxq, sxr, sxs, sxl, sxm, simprocAttr, e1, dn]
    refine CallOb.pureH (fun w' hp => hlv _ w' hp) ?_
    rintro q NN rfl
    refine ⟨?_⟩
    simp (config := { maxSteps := 4000000 }) only [↓sx0, ↓sx1, ↓sx2, ↓sx3, ↓sx4, ↓sx5, ↓sx6, sx0, sx1, sx2, sx3, sx4, sx5, sx6, tf5, ev3_hold, sxo, sxc, sxp, sxq, sxr, sxs, sxl, sxm, simprocAttr]
  have e1 : ((ms.length : Int) > 60) = False := eq_false (by omega)
  have hcy := hcy (by omega)
  have z0 : ((0 : Int) = 0) = True := eq_true rfl
  cases hy : yearB r lst ms with
  | false =>
    rw [hy] at hcy
    refine walk [] [] (det0_ok _ _) Tryz.func5 rfl Tryz.ntmps5 res5 (by kernel_rfl) no_facts ?_
    simp (config := { maxSteps := 4000000 }) only [↓sx0, ↓sx1, ↓sx2, ↓sx3, ↓sx4, ↓sx5, ↓sx6, sx0, sx1, sx2, sx3, sx4, sx5, sx6, tf5, ev3_hold, sxo, sxc, sxp, sxq, sxr, sxs, sxl, sxm, simprocAttr, e1, dn]
    refine CallOb.pureH (fun w' hp => hcy _ w' hp) ?_
    rintro q N rfl
    refine ⟨?_⟩
    simp (config := { maxSteps := 4000000 }) only [↓sx0, ↓sx1, ↓sx2, ↓sx3, ↓sx4, ↓sx5, ↓sx6, sx0, sx1, sx2, sx3, sx4, sx5, sx6, tf5, ev3_hold, sxo, sxc, sxp, sxq, sxr, sxs, sxl, sxm, simprocAttr, dn]
    refine CallOb.pureH (fun w' hp => hlv _ w' hp) ?_
    rintro q NN rfl
    refine ⟨?_⟩
    simp (config := { maxSteps := 4000000 }) only [↓sx0, ↓sx1, ↓sx2, ↓sx3, ↓sx4, ↓sx5, ↓sx6, sx0, sx1, sx2, sx3, sx4, sx5, sx6, tf5, ev3_hold, sxo, sxc, sxp, sxq, sxr, sxs, sxl, sxm, simprocAttr]
  | true =>
  rw [hy] at hcy
  by_cases h8 : l.length > 8
  · have e2 : ((l.length : Int) > 8) = True := eq_true (by omega)
    refine walk [] [] (det0_ok _ _) Tryz.func5 rfl Tryz.ntmps5 res5 (by kernel_rfl) no_facts ?_
    simp (config := { maxSteps := 4000000 }) only [↓sx0, ↓sx1, ↓sx2, ↓sx3, ↓sx4, ↓sx5, ↓sx6, sx0, sx1, sx2, sx3, sx4, sx5, sx6, tf5, ev3_hold, sxo, sxc, sxp, sxq, sxr, sxs, sxl, sxm, simprocAttr, e1, dn]
    refine CallOb.pureH (fun w' hp => hcy _ w' hp) ?_
    rintro q N rfl
    refine ⟨?_⟩
    simp (config := { maxSteps := 4000000 }) only [↓sx0, ↓sx1, ↓sx2, ↓sx3, ↓sx4, ↓sx5, ↓sx6, sx0, sx1, sx2, sx3, sx4, sx5, sx6, tf5, ev3_hold, sxo, sxc, sxp, sxq, sxr, sxs, sxl, sxm, simprocAttr, e2, dn]
    refine CallOb.pureH (fun w' hp => hlv _ w' hp) ?_
    rintro q NN rfl
    refine ⟨?_⟩
    simp (config := { maxSteps := 4000000 }) only [↓sx0, ↓sx1, ↓sx2, ↓sx3, ↓sx4, ↓sx5, ↓sx6, sx0, sx1, sx2, sx3, sx4, sx5, sx6, tf5, ev3_hold, sxo, sxc, sxp, sxq, sxr, sxs, sxl, sxm, simprocAttr]
  have e2 : ((l.length : Int) > 8) = False := eq_false (by omega)
  have hcs := hcs (by omega)
  have hsh := hsh (by omega)
  cases hok : shopsB l st with
  | false =>
    refine walk [] [] (det0_ok _ _) Tryz.func5 rfl Tryz.ntmps5 res5 (by kernel_rfl) no_facts ?_
    simp (config := { maxSteps := 4000000 }) only [↓sx0, ↓sx1, ↓sx2, ↓sx3, ↓sx4, ↓sx5, ↓sx6, sx0, sx1, sx2, sx3, sx4, sx5, sx6, tf5, ev3_hold, sxo, sxc, sxp, sxq, sxr, sxs, sxl, sxm, simprocAttr, e1, dn]
    refine CallOb.pureH (fun w' hp => hcy _ w' hp) ?_
    rintro q N rfl
    refine ⟨?_⟩
    simp (config := { maxSteps := 4000000 }) only [↓sx0, ↓sx1, ↓sx2, ↓sx3, ↓sx4, ↓sx5, ↓sx6, sx0, sx1, sx2, sx3, sx4, sx5, sx6, tf5, ev3_hold, sxo, sxc, sxp, sxq, sxr, sxs, sxl, sxm, simprocAttr, e2, dn]
    refine CallOb.pureH (fun w' hp => hcs _ w' hp) ?_
    rintro q N2 ⟨z, rfl, hz⟩
    have f1 : (z = 0) = False := eq_false fun h => by have := hz.1 h; rw [hok] at this; cases this
    refine ⟨?_⟩
    simp (config := { maxSteps := 4000000 }) only [↓sx0, ↓sx1, ↓sx2, ↓sx3, ↓sx4, ↓sx5, ↓sx6, sx0, sx1, sx2, sx3, sx4, sx5, sx6, tf5, ev3_hold, sxo, sxc, sxp, sxq, sxr, sxs, sxl, sxm, simprocAttr, f1, dn]
    refine CallOb.pureH (fun w' hp => hlv _ w' hp) ?_
    rintro q NN rfl
    refine ⟨?_⟩
    simp (config := { maxSteps := 4000000 }) only [↓sx0, ↓sx1, ↓sx2, ↓sx3, ↓sx4, ↓sx5, ↓sx6, sx0, sx1, sx2, sx3, sx4, sx5, sx6, tf5, ev3_hold, sxo, sxc, sxp, sxq, sxr, sxs, sxl, sxm, simprocAttr]
  | true =>
  have hsh := hsh hok
  have hall : l.all shB = true := by
    unfold shopsB at hok
    simp only [Bool.and_eq_true] at hok
    exact hok.2.1
  have hget := sh_get hall
  unfold appealV at hap
  rw [hy, if_pos rfl] at hap
  obtain ⟨O, hO⟩ : ∃ O, onceN (ovW r lst ms) ms.length = O := ⟨_, rfl⟩
  obtain ⟨M, hM⟩ : ∃ M, monN (ovW r lst ms) ms.length = M := ⟨_, rfl⟩
  rw [hO, hM] at hap
  refine walk [] [] (det0_ok _ _) Tryz.func5 rfl Tryz.ntmps5 res5 (by kernel_rfl) no_facts ?_
  simp (config := { maxSteps := 4000000 }) only [↓sx0, ↓sx1, ↓sx2, ↓sx3, ↓sx4, ↓sx5, ↓sx6, sx0, sx1, sx2, sx3, sx4, sx5, sx6, tf5, ev3_hold, sxo, sxc, sxp, sxq, sxr, sxs, sxl, sxm, simprocAttr, e1, dn]
  refine CallOb.pureH (fun w' hp => hcy _ w' hp) ?_
  rintro q N rfl
  refine ⟨?_⟩
  simp (config := { maxSteps := 4000000 }) only [↓sx0, ↓sx1, ↓sx2, ↓sx3, ↓sx4, ↓sx5, ↓sx6, sx0, sx1, sx2, sx3, sx4, sx5, sx6, tf5, ev3_hold, sxo, sxc, sxp, sxq, sxr, sxs, sxl, sxm, simprocAttr, e2, dn]
  refine CallOb.pureH (fun w' hp => hcs _ w' hp) ?_
  rintro q N2 ⟨z, rfl, hz⟩
  have f1 : (z = 0) = True := eq_true (hz.2 hok)
  refine ⟨?_⟩
  simp (config := { maxSteps := 4000000 }) only [↓sx0, ↓sx1, ↓sx2, ↓sx3, ↓sx4, ↓sx5, ↓sx6, sx0, sx1, sx2, sx3, sx4, sx5, sx6, tf5, ev3_hold, sxo, sxc, sxp, sxq, sxr, sxs, sxl, sxm, simprocAttr, f1, dn]
  refine CallOb.pureH (fun w' hp => hap _ w' hp) ?_
  rintro q N3 rfl
  refine ⟨?_⟩
  simp (config := { maxSteps := 4000000 }) only [↓sx0, ↓sx1, ↓sx2, ↓sx3, ↓sx4, ↓sx5, ↓sx6, sx0, sx1, sx2, sx3, sx4, sx5, sx6, tf5, ev3_hold, sxo, sxc, sxp, sxq, sxr, sxs, sxl, sxm, simprocAttr, dn]
  refine CallOb.pureH (fun w' hp => hsh _ w' hp) ?_
  rintro q N4 ⟨vo, net, L, rfl, hG, hL10, hLi, hnet, hn0⟩
  obtain ⟨ao, co, rfl⟩ := hG.shape
  have f2 : (net < 0) = False := eq_false (by omega)
  by_cases hnm : net < M
  · have f3 : (net < M) = True := eq_true hnm
    refine ⟨?_⟩
    simp (config := { maxSteps := 4000000 }) only [↓sx0, ↓sx1, ↓sx2, ↓sx3, ↓sx4, ↓sx5, ↓sx6, sx0, sx1, sx2, sx3, sx4, sx5, sx6, tf5, ev3_hold, sxo, sxc, sxp, sxq, sxr, sxs, sxl, sxm, simprocAttr, z0, f2, f3, dn]
    refine CallOb.pureH (fun w' hp => hlv _ w' hp) ?_
    rintro q NN rfl
    refine ⟨?_⟩
    simp (config := { maxSteps := 4000000 }) only [↓sx0, ↓sx1, ↓sx2, ↓sx3, ↓sx4, ↓sx5, ↓sx6, sx0, sx1, sx2, sx3, sx4, sx5, sx6, tf5, ev3_hold, sxo, sxc, sxp, sxq, sxr, sxs, sxl, sxm, simprocAttr]
  have f3 : (net < M) = False := eq_false hnm
  have hrP := fun (H : List HO) (hm : ∀ h ∈ N4, h ∈ H) => hG.rdv (w0 := ⟨w, fun _ => False⟩) i1_len hm
  obtain ⟨A, hA⟩ : ∃ A : Nat → Int, ∀ j, lowS l (fun x => x.1) (L.take j) = A j := ⟨_, fun _ => rfl⟩
  obtain ⟨B, hB⟩ : ∃ B : Nat → Int, ∀ j, lowS l (fun x => x.2.1) (L.take j) = B j := ⟨_, fun _ => rfl⟩
  have hA0 : A 0 = 0 := by rw [← hA]; rfl
  have hB0 : B 0 = 0 := by rw [← hB]; rfl
  have hAb : ∀ j, -10000000 ≤ A j ∧ A j ≤ 10000000 := fun j => by
    have h1 := lowS_bd (l := l) (f := fun x => x.1) (M := 1000000) (fun k => by have := hget k; omega) (L.take j)
    have h2 : (L.take j).length ≤ 10 := by rw [List.length_take]; omega
    rw [← hA]
    omega
  have hBb : ∀ j, -10000000 ≤ B j ∧ B j ≤ 10000000 := fun j => by
    have h1 := lowS_bd (l := l) (f := fun x => x.2.1) (M := 1000000) (fun k => by have := hget k; omega) (L.take j)
    have h2 : (L.take j).length ≤ 10 := by rw [List.length_take]; omega
    rw [← hB]
    omega
  have hAL : A L.length = net := by rw [← hA, List.take_length, hnet]
  refine ⟨?_⟩
  simp (config := { maxSteps := 4000000 }) only [↓sx0, ↓sx1, ↓sx2, ↓sx3, ↓sx4, ↓sx5, ↓sx6, sx0, sx1, sx2, sx3, sx4, sx5, sx6, tf5, ev3_hold, sxo, sxc, sxp, sxq, sxr, sxs, sxl, sxm, simprocAttr, z0, f2, f3]
  refine loop_constH N4 ((HImp.sub (List.sublist_append_left _ _))) [(6, 6), (13, 15), (69, 110)] (fun j : Nat => [(13, I (A j)), (14, I (B j)), (15, I j)]) (fun j H6 => j ≤ L.length ∧ H6 = N4) (fun j => L.length - j) 0 ?_ ⟨Nat.zero_le _, rfl⟩ ?_
  · simp (config := { maxSteps := 4000000 }) only [↓sx0, ↓sx1, ↓sx2, ↓sx3, ↓sx4, ↓sx5, ↓sx6, sx0, sx1, sx2, sx3, sx4, sx5, sx6, tf5, ev3_hold, sxo, sxc, sxp, sxq, sxr, sxs, sxl, sxm, simprocAttr, hA0, hB0]
    try simp
  rintro j H6 g6 ⟨hj, rfl⟩
  by_cases hjn : j = L.length
  case neg =>
    have p7 : ((j : Int) < (L.length : Int)) = True := eq_true (by omega)
    have p8 : wr ((j : Int) + 1) = ((j + 1 : Nat) : Int) := (wrap_id (by omega)).trans (by omega)
    obtain ⟨i, hi⟩ : ∃ i, L[j]? = some i := ⟨_, List.getElem?_eq_getElem (by omega)⟩
    have hil := hLi i (List.mem_of_getElem? hi)
    obtain ⟨x, hx⟩ : ∃ x, l[i.toNat]? = some x := ⟨_, List.getElem?_eq_getElem (by omega)⟩
    have hxd : l.getD i.toNat (0, 0, 0) = x := by rw [List.getD_eq_getElem?_getD, hx]; rfl
    have i0 : (i < 0) = False := eq_false (by omega)
    have i1' : (i ≥ (l.length : Int)) = False := eq_false (by omega)
    have hsA : wr (A j + x.1) = A (j + 1) := by
      have h1 := lowS_take (l := l) (f := fun x => x.1) hi
      rw [hA, hA, hxd] at h1
      have h2 := hAb (j + 1)
      rw [← h1]
      exact wrap_id (by omega)
    have hsB : wr (B j + x.2.1) = B (j + 1) := by
      have h1 := lowS_take (l := l) (f := fun x => x.2.1) hi
      rw [hB, hB, hxd] at h1
      have h2 := hBb (j + 1)
      rw [← h1]
      exact wrap_id (by omega)
    refine ⟨?_⟩
    simp (config := { maxSteps := 4000000 }) only [↓sx0, ↓sx1, ↓sx2, ↓sx3, ↓sx4, ↓sx5, ↓sx6, sx0, sx1, sx2, sx3, sx4, sx5, sx6, tf5, ev3_hold, sxo, sxc, sxp, sxq, sxr, sxs, sxl, sxm, simprocAttr, p7]
    refine amid (at_1 (hrP _ (fun h hh => hh)) i1_len hi rfl fun ad => ?_)
    simp (config := { maxSteps := 4000000 }) only [↓sx0, ↓sx1, ↓sx2, ↓sx3, ↓sx4, ↓sx5, ↓sx6, sx0, sx1, sx2, sx3, sx4, sx5, sx6, tf5, ev3_hold, sxo, sxc, sxp, sxq, sxr, sxs, sxl, sxm, simprocAttr, i0, p7]
    refine amid (at_1 (hrP _ (fun h hh => hh)) i1_len hi rfl fun ad => ?_)
    simp (config := { maxSteps := 4000000 }) only [↓sx0, ↓sx1, ↓sx2, ↓sx3, ↓sx4, ↓sx5, ↓sx6, sx0, sx1, sx2, sx3, sx4, sx5, sx6, tf5, ev3_hold, sxo, sxc, sxp, sxq, sxr, sxs, sxl, sxm, simprocAttr, i1', p7]
    refine amid (at_1 (hrP _ (fun h hh => hh)) i1_len hi rfl fun ad => ?_)
    simp (config := { maxSteps := 4000000 }) only [↓sx0, ↓sx1, ↓sx2, ↓sx3, ↓sx4, ↓sx5, ↓sx6, sx0, sx1, sx2, sx3, sx4, sx5, sx6, tf5, ev3_hold, sxo, sxc, sxp, sxq, sxr, sxs, sxl, sxm, simprocAttr]
    refine ⟨by omega, by omega, (at_f2 (k := i.toNat) (o1 := 0) (o2 := 0) (x := I x.1) (hr _) ldc_len hx rfl fun ad2 => ?_).2.2⟩
    simp (config := { maxSteps := 4000000 }) only [↓sx0, ↓sx1, ↓sx2, ↓sx3, ↓sx4, ↓sx5, ↓sx6, sx0, sx1, sx2, sx3, sx4, sx5, sx6, tf5, ev3_hold, sxo, sxc, sxp, sxq, sxr, sxs, sxl, sxm, simprocAttr, hsA, p7]
    refine amid (at_1 (hrP _ (fun h hh => hh)) i1_len hi rfl fun ad => ?_)
    simp (config := { maxSteps := 4000000 }) only [↓sx0, ↓sx1, ↓sx2, ↓sx3, ↓sx4, ↓sx5, ↓sx6, sx0, sx1, sx2, sx3, sx4, sx5, sx6, tf5, ev3_hold, sxo, sxc, sxp, sxq, sxr, sxs, sxl, sxm, simprocAttr]
    refine ⟨by omega, by omega, (at_f2 (k := i.toNat) (o1 := 0) (o2 := 1) (x := I x.2.1) (hr _) ldc_len hx rfl fun ad2 => ?_).2.2⟩
    simp (config := { maxSteps := 4000000 }) only [↓sx0, ↓sx1, ↓sx2, ↓sx3, ↓sx4, ↓sx5, ↓sx6, sx0, sx1, sx2, sx3, sx4, sx5, sx6, tf5, ev3_hold, sxo, sxc, sxp, sxq, sxr, sxs, sxl, sxm, simprocAttr, hsB, p8]
    exact ⟨j + 1, _, ⟨rfl, rfl, rfl⟩, HImp.refl _ _, ⟨by omega, rfl⟩, by omega⟩
  have p7 : ((j : Int) < (L.length : Int)) = False := eq_false (by omega)
  subst hjn
  have hnb := hAb L.length
  rw [hAL] at hnb
  have hbb := hBb L.length
  obtain ⟨hi, hhi⟩ : ∃ hi, B L.length = hi := ⟨_, rfl⟩
  rw [hhi] at hbb
  have hyg := (year_parts hy).2.2.2
  refine ⟨?_⟩
  simp (config := { maxSteps := 4000000 }) only [↓sx0, ↓sx1, ↓sx2, ↓sx3, ↓sx4, ↓sx5, ↓sx6, sx0, sx1, sx2, sx3, sx4, sx5, sx6, tf5, ev3_hold, sxo, sxc, sxp, sxq, sxr, sxs, sxl, sxm, simprocAttr, p7, hAL, hhi]
  intro b1
  refine app_at (l := ([] : List Mon)) (m := ms) (HImp.refl _ _) moc_len moc_one (fun w' hp => Sl.hp (w0 := ⟨w, fun _ => False⟩) hS0 (fun _ _ => id) hp) (by simp; omega) fun az cz hz0 => ?_
  simp (config := { maxSteps := 4000000 }) only [↓sx0, ↓sx1, ↓sx2, ↓sx3, ↓sx4, ↓sx5, ↓sx6, sx0, sx1, sx2, sx3, sx4, sx5, sx6, tf5, ev3_hold, sxo, sxc, sxp, sxq, sxr, sxs, sxl, sxm, simprocAttr]
  refine loop_constH [HO.row (.slice az ms.length cz) 82 4 (cat moc (zL net hi ms 0))] (by rw [zL_zero]; exact HImp.sub (List.Sublist.cons_cons _ (List.nil_sublist _))) [(17, 17), (117, 147)] (fun k : Nat => [(17, I k)]) (fun k H7 => k ≤ ms.length ∧ H7 = [HO.row (.slice az ms.length cz) 82 4 (cat moc (zL net hi ms k))]) (fun k => ms.length - k) 0 ?_ ⟨Nat.zero_le _, rfl⟩ ?_
  · simp (config := { maxSteps := 4000000 }) only [↓sx0, ↓sx1, ↓sx2, ↓sx3, ↓sx4, ↓sx5, ↓sx6, sx0, sx1, sx2, sx3, sx4, sx5, sx6, tf5, ev3_hold, sxo, sxc, sxp, sxq, sxr, sxs, sxl, sxm, simprocAttr]
    try simp
  rintro k H7 g7 ⟨hk, rfl⟩
  by_cases hkn : k = ms.length
  case neg =>
    have q7 : ((k : Int) < (ms.length : Int)) = True := eq_true (by omega)
    have q8 : wr ((k : Int) + 1) = ((k + 1 : Nat) : Int) := (wrap_id (by omega)).trans (by omega)
    obtain ⟨x, hx⟩ : ∃ x, ms[k]? = some x := ⟨_, List.getElem?_eq_getElem (by omega)⟩
    have hxb := hyg x (List.mem_of_getElem? hx)
    have hzx := zL_get (a := net) (b := hi) hx
    have hzl := zL_len net hi ms k
    have hzs := zL_set (a := net) (b := hi) hx
    have s1 : wr (x.il + net) = x.il + net := wrap_id (by omega)
    have s2 : wr (x.ih + hi) = x.ih + hi := wrap_id (by omega)
    obtain ⟨ad, rfl⟩ : ∃ ad, az = some ad := by
      cases az with
      | none => rw [(hz0 rfl).2] at hx; simp at hx
      | some ad => exact ⟨ad, rfl⟩
    obtain ⟨Z, hZ⟩ : ∃ Z, zL net hi ms k = Z := ⟨_, rfl⟩
    rw [hZ] at hzx hzl hzs ⊢
    have hrz : ∀ (Y : List Mon), Y.length = ms.length → Rdv ⟨w, fun _ => False⟩ [HO.row (.slice (some ad) ms.length cz) 82 4 (cat moc Y)] (.slice (some ad) ms.length cz) 4 (cat moc Y) := fun Y hY => row_rdv (E := 82) (by simp) ⟨_, _, _, rfl, by rw [cat_len moc_len, hY], fun h => by cases h⟩
    refine ⟨?_⟩
    simp (config := { maxSteps := 4000000 }) only [↓sx0, ↓sx1, ↓sx2, ↓sx3, ↓sx4, ↓sx5, ↓sx6, sx0, sx1, sx2, sx3, sx4, sx5, sx6, tf5, ev3_hold, sxo, sxc, sxp, sxq, sxr, sxs, sxl, sxm, simprocAttr, q7]
    refine amid (at_f2 (o1 := 0) (o2 := 0) (x := I x.il) (hrz Z hzl) moc_len hzx rfl fun ad2 => ?_)
    simp (config := { maxSteps := 4000000 }) only [↓sx0, ↓sx1, ↓sx2, ↓sx3, ↓sx4, ↓sx5, ↓sx6, sx0, sx1, sx2, sx3, sx4, sx5, sx6, tf5, ev3_hold, sxo, sxc, sxp, sxq, sxr, sxs, sxl, sxm, simprocAttr, q7, s1]
    refine ⟨by omega, _, rfl, ?_⟩
    have hl1 : (Z.set k ⟨x.il + net, x.ih, x.cl, x.ch⟩).length = ms.length := by rw [List.length_set, hzl]
    have hg1 : (Z.set k ⟨x.il + net, x.ih, x.cl, x.ch⟩)[k]? = some ⟨x.il + net, x.ih, x.cl, x.ch⟩ := by rw [List.getElem?_set_self (by omega)]
    have hfin : (Z.set k ⟨x.il + net, x.ih, x.cl, x.ch⟩).set k ⟨x.il + net, x.ih + hi, x.cl, x.ch⟩ = zL net hi ms (k + 1) := by rw [List.set_set]; exact hzs
    refine wr_f2 (A := []) (B := []) (o1 := 0) (o2 := 0) ⟨x.il + net, x.ih, x.cl, x.ch⟩ rfl moc_len hzl hzx rfl (by omega) ?_
    obtain ⟨Z1, hZ1⟩ : ∃ Z1, Z.set k ⟨x.il + net, x.ih, x.cl, x.ch⟩ = Z1 := ⟨_, rfl⟩
    rw [hZ1] at hl1 hg1 hfin ⊢
    simp (config := { maxSteps := 4000000 }) only [↓sx0, ↓sx1, ↓sx2, ↓sx3, ↓sx4, ↓sx5, ↓sx6, sx0, sx1, sx2, sx3, sx4, sx5, sx6, tf5, ev3_hold, sxo, sxc, sxp, sxq, sxr, sxs, sxl, sxm, simprocAttr, q7]
    refine amid (at_f2 (o1 := 0) (o2 := 1) (x := I x.ih) (hrz Z1 hl1) moc_len hg1 rfl fun ad2 => ?_)
    simp (config := { maxSteps := 4000000 }) only [↓sx0, ↓sx1, ↓sx2, ↓sx3, ↓sx4, ↓sx5, ↓sx6, sx0, sx1, sx2, sx3, sx4, sx5, sx6, tf5, ev3_hold, sxo, sxc, sxp, sxq, sxr, sxs, sxl, sxm, simprocAttr, q7, s2]
    refine ⟨by omega, _, rfl, ?_⟩
    refine wr_f2 (A := []) (B := []) (o1 := 0) (o2 := 1) ⟨x.il + net, x.ih + hi, x.cl, x.ch⟩ rfl moc_len hl1 hg1 rfl (by omega) ?_
    rw [hfin]
    simp (config := { maxSteps := 4000000 }) only [↓sx0, ↓sx1, ↓sx2, ↓sx3, ↓sx4, ↓sx5, ↓sx6, sx0, sx1, sx2, sx3, sx4, sx5, sx6, tf5, ev3_hold, sxo, sxc, sxp, sxq, sxr, sxs, sxl, sxm, simprocAttr, q8]
    exact ⟨k + 1, _, rfl, HImp.refl _ _, ⟨by omega, rfl⟩, by omega⟩
  have q7 : ((k : Int) < (ms.length : Int)) = False := eq_false (by omega)
  subst hkn
  have hzl := zL_all net hi ms
  rw [hzl]
  have hml : (ms.map (moreM net hi)).length = ms.length := List.length_map _
  have hcz : ∀ w', Hp ⟨w, fun _ => False⟩ [HO.row (.slice az ms.length cz) 82 4 (cat moc (ms.map (moreM net hi)))] w' → SX.Fn Tryz.prog 23 [.agg #[I r, I lst, .slice az ms.length cz]] w' (fun _ => False) fun q N => q = I (if yearB r lst (ms.map (moreM net hi)) then 0 else 111) := fun w' hp => rcheckYear_fn w' _ r lst _ (row_hp (E := 82) (by simp) hp) (by rw [hml]; omega)
  have hlz : ∀ (H : List HO) w', HO.row (.slice az ms.length cz) 82 4 (cat moc (ms.map (moreM net hi))) ∈ H → Hp ⟨w, fun _ => False⟩ H w' → SX.Fn Tryz.prog 20 [.agg #[I r, I lst, .slice az ms.length cz]] w' (fun _ => False) fun q N => q = lastsV r lst (ms.map (moreM net hi)) := fun H w' hm hp => glasts_fn w' _ r lst _ (row_hp (E := 82) hm hp)
  cases hyz : yearB r lst (ms.map (moreM net hi)) with
  | false =>
    rw [hyz] at hcz
    refine ⟨?_⟩
    simp (config := { maxSteps := 4000000 }) only [↓sx0, ↓sx1, ↓sx2, ↓sx3, ↓sx4, ↓sx5, ↓sx6, sx0, sx1, sx2, sx3, sx4, sx5, sx6, tf5, ev3_hold, sxo, sxc, sxp, sxq, sxr, sxs, sxl, sxm, simprocAttr, q7, dn]
    refine CallOb.pureH (fun w' hp => hcz w' hp) ?_
    rintro q N5 rfl
    refine ⟨?_⟩
    simp (config := { maxSteps := 4000000 }) only [↓sx0, ↓sx1, ↓sx2, ↓sx3, ↓sx4, ↓sx5, ↓sx6, sx0, sx1, sx2, sx3, sx4, sx5, sx6, tf5, ev3_hold, sxo, sxc, sxp, sxq, sxr, sxs, sxl, sxm, simprocAttr, dn]
    refine CallOb.pureH (fun w' hp => hlv _ w' hp) ?_
    rintro q NN rfl
    refine ⟨?_⟩
    simp (config := { maxSteps := 4000000 }) only [↓sx0, ↓sx1, ↓sx2, ↓sx3, ↓sx4, ↓sx5, ↓sx6, sx0, sx1, sx2, sx3, sx4, sx5, sx6, tf5, ev3_hold, sxo, sxc, sxp, sxq, sxr, sxs, sxl, sxm, simprocAttr]
  | true =>
  rw [hyz] at hcz
  have hLv : ∃ S' : Nat, lastsV r lst (ms.map (moreM net hi)) = .tuple #[I ms.length, I S', I 0] := by
    unfold lastsV
    rw [hyz, if_pos rfl, hml, shops_last hy hyz (by omega)]
    exact ⟨_, rfl⟩
  obtain ⟨S', hLv⟩ := hLv
  rw [hLv] at hlz
  have zN : ((ms.length : Int) = (ms.length : Int)) = True := eq_true rfl
  have zn : (net = net) = True := eq_true rfl
  refine ⟨?_⟩
  simp (config := { maxSteps := 4000000 }) only [↓sx0, ↓sx1, ↓sx2, ↓sx3, ↓sx4, ↓sx5, ↓sx6, sx0, sx1, sx2, sx3, sx4, sx5, sx6, tf5, ev3_hold, sxo, sxc, sxp, sxq, sxr, sxs, sxl, sxm, simprocAttr, q7, dn]
  refine CallOb.pureH (fun w' hp => hcz w' hp) ?_
  rintro q N5 rfl
  refine ⟨?_⟩
  simp (config := { maxSteps := 4000000 }) only [↓sx0, ↓sx1, ↓sx2, ↓sx3, ↓sx4, ↓sx5, ↓sx6, sx0, sx1, sx2, sx3, sx4, sx5, sx6, tf5, ev3_hold, sxo, sxc, sxp, sxq, sxr, sxs, sxl, sxm, simprocAttr, dn]
  refine CallOb.pureH (fun w' hp => hlz _ w' (by simp) hp) ?_
  rintro q N6 rfl
  refine ⟨?_⟩
  simp (config := { maxSteps := 4000000 }) only [↓sx0, ↓sx1, ↓sx2, ↓sx3, ↓sx4, ↓sx5, ↓sx6, sx0, sx1, sx2, sx3, sx4, sx5, sx6, tf5, ev3_hold, sxo, sxc, sxp, sxq, sxr, sxs, sxl, sxm, simprocAttr, z0, zN, zn, dn]
  refine CallOb.pureH (fun w' hp => hlv _ w' hp) ?_
  rintro q NN rfl
  refine ⟨?_⟩
  simp (config := { maxSteps := 4000000 }) only [↓sx0, ↓sx1, ↓sx2, ↓sx3, ↓sx4, ↓sx5, ↓sx6, sx0, sx1, sx2, sx3, sx4, sx5, sx6, tf5, ev3_hold, sxo, sxc, sxp, sxq, sxr, sxs, sxl, sxm, simprocAttr]
end Go.Proofs.YtnbogcpnpcbjgaaGreatDoor
