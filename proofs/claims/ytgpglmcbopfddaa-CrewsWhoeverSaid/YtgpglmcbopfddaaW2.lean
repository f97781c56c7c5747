/- Parts of a proof: the symbolic walk and what it shows of single functions. -/
import Derived.Test.YtgpglmcbopfddaaW1
import Derived.Test.YtgpglmcbopfddaaK4
import Derived.Test.YtgpglmcbopfddaaK5
set_option linter.all false
namespace Go.Proofs.Ytgpglmcbopfddaa
open Go.RowKit Go.SX
set_option maxRecDepth 10000
set_option maxHeartbeats 0
set_option linter.unusedSimpArgs false
set_option linter.unusedVariables false
theorem bit10 : ∀ s : Fin 32, ∀ i : Fin 5, (bitS .and .i64 (((s.val : Nat) : Int).fdiv (2 ^ (min i.val IntKind.i64.bits))) 1 == 1) = s.val.testBit i.val := by
  decide +kernel
theorem shl10 : ∀ i : Fin 6, IntKind.i64.wrap (1 * 2 ^ (min i.val IntKind.i64.bits)) = ((2 ^ i.val : Nat) : Int) := by
  decide +kernel
theorem u64w {i : Nat} (h : i ≤ 1000) : IntKind.u64.wrap (i : Int) = i := by
  rw [IntKind.wrap_u64]
  omega
theorem sooner_fn (w : World) (u v : Value) (x y : List Int) (hx : Sl w u 1 (ints x)) (hy : Sl w v 1 (ints y)) (hxl : x.length ≤ 1000) (hyl : y.length ≤ 1000) :
    SX.Fn Try.prog 36 [u, v] w (fun _ => False) fun r N => r = .bool (befB x y) := by
  obtain ⟨a, n, c, rfl⟩ := hx.shape
  have hn := hx.le i1_len (by omega)
  subst hn
  obtain ⟨a2, n2, c2, rfl⟩ := hy.shape
  have hn := hy.le i1_len (by omega)
  subst hn
  have hr := hx.rd0
  have hr2 := hy.rd0
  obtain ⟨E, hE⟩ : ∃ E, befB x y = E := ⟨_, rfl⟩
  rw [hE]
  unfold befB at hE
  by_cases h1 : x.length = y.length
  case neg =>
    have e1 : ((x.length : Int) = (y.length : Int)) = False := eq_false (by omega)
    rw [if_neg h1] at hE
    by_cases h2 : x.length < y.length
    · have e2 : ((x.length : Int) < (y.length : Int)) = True := eq_true (by omega)
      rw [decide_eq_true h2] at hE
      subst hE
      refine walk [] [] (det0_ok _ _) Try.func36 rfl Try.ntmps36 res36 (by kernel_rfl) no_facts ?_
      simp (config := { maxSteps := 4000000 }) only [↓sx0, ↓sx1, ↓sx2, ↓sx3, ↓sx4, ↓sx5, ↓sx6, sx0, sx1, sx2, sx3, sx4, sx5, sx6, tf36, ev3_hold, sxo, sxc, sxp, sxq, sxr, sxs, sxl, sxm, simprocAttr, e1, e2]
    · have e2 : ((x.length : Int) < (y.length : Int)) = False := eq_false (by omega)
      rw [decide_eq_false h2] at hE
      subst hE
      refine walk [] [] (det0_ok _ _) Try.func36 rfl Try.ntmps36 res36 (by kernel_rfl) no_facts ?_
      simp (config := { maxSteps := 4000000 }) only [↓sx0, ↓sx1, ↓sx2, ↓sx3, ↓sx4, ↓sx5, ↓sx6, sx0, sx1, sx2, sx3, sx4, sx5, sx6, tf36, ev3_hold, sxo, sxc, sxp, sxq, sxr, sxs, sxl, sxm, simprocAttr, e1, e2]
  have e1 : ((x.length : Int) = (y.length : Int)) = True := eq_true (by omega)
  rw [if_pos h1] at hE
  refine walk [] [] (det0_ok _ _) Try.func36 rfl Try.ntmps36 res36 (by kernel_rfl) no_facts ?_
  simp (config := { maxSteps := 4000000 }) only [↓sx0, ↓sx1, ↓sx2, ↓sx3, ↓sx4, ↓sx5, ↓sx6, sx0, sx1, sx2, sx3, sx4, sx5, sx6, tf36, ev3_hold, sxo, sxc, sxp, sxq, sxr, sxs, sxl, sxm, simprocAttr, e1]
  refine loop_constH [] (HImp.refl _ _) [(4, 5), (16, 39)] (fun i : Nat => [(5, I i)]) (fun i H1 => i ≤ x.length ∧ lexB (x.drop i) (y.drop i) = E ∧ H1 = []) (fun i => x.length - i) 0 ?_ ⟨Nat.zero_le _, hE, rfl⟩ ?_
  · simp (config := { maxSteps := 4000000 }) only [↓sx0, ↓sx1, ↓sx2, ↓sx3, ↓sx4, ↓sx5, ↓sx6, sx0, sx1, sx2, sx3, sx4, sx5, sx6, tf36, ev3_hold, sxo, sxc, sxp, sxq, sxr, sxs, sxl, sxm, simprocAttr]
    try simp
  rintro i H1 g1 ⟨hi, hlex, rfl⟩
  by_cases hin : i = x.length
  · have e7 : ((i : Int) < (x.length : Int)) = False := eq_false (by omega)
    rw [List.drop_of_length_le (by omega : x.length ≤ i)] at hlex
    have hE2 : E = false := by rw [← hlex]; unfold lexB; rfl
    subst hE2
    refine ⟨?_⟩
    simp (config := { maxSteps := 4000000 }) only [↓sx0, ↓sx1, ↓sx2, ↓sx3, ↓sx4, ↓sx5, ↓sx6, sx0, sx1, sx2, sx3, sx4, sx5, sx6, tf36, ev3_hold, sxo, sxc, sxp, sxq, sxr, sxs, sxl, sxm, simprocAttr, e7]
  have e7 : ((i : Int) < (x.length : Int)) = True := eq_true (by omega)
  have e8 : wr (i + 1) = ((i + 1 : Nat) : Int) := (wrap_id (by omega)).trans (by omega)
  have hil : i < x.length := by omega
  have hil2 : i < y.length := by omega
  have hu := List.getElem?_eq_getElem hil
  have hu2 := List.getElem?_eq_getElem hil2
  rw [List.drop_eq_getElem_cons hil, List.drop_eq_getElem_cons hil2] at hlex
  obtain ⟨p, hp⟩ : ∃ p, x[i] = p := ⟨_, rfl⟩
  obtain ⟨q, hq⟩ : ∃ q, y[i] = q := ⟨_, rfl⟩
  rw [hp] at hu
  rw [hq] at hu2
  rw [hp, hq, lexB] at hlex
  by_cases h3 : p = q
  · have e3 : (p = q) = True := eq_true h3
    rw [if_pos h3] at hlex
    refine ⟨?_⟩
    simp (config := { maxSteps := 4000000 }) only [↓sx0, ↓sx1, ↓sx2, ↓sx3, ↓sx4, ↓sx5, ↓sx6, sx0, sx1, sx2, sx3, sx4, sx5, sx6, tf36, ev3_hold, sxo, sxc, sxp, sxq, sxr, sxs, sxl, sxm, simprocAttr, e7]
    refine amid (at_1 (hr _) i1_len hu rfl fun ad => ?_)
    simp (config := { maxSteps := 4000000 }) only [↓sx0, ↓sx1, ↓sx2, ↓sx3, ↓sx4, ↓sx5, ↓sx6, sx0, sx1, sx2, sx3, sx4, sx5, sx6, tf36, ev3_hold, sxo, sxc, sxp, sxq, sxr, sxs, sxl, sxm, simprocAttr]
    refine at_1 (hr2 _) i1_len hu2 rfl fun ad => ?_
    simp (config := { maxSteps := 4000000 }) only [↓sx0, ↓sx1, ↓sx2, ↓sx3, ↓sx4, ↓sx5, ↓sx6, sx0, sx1, sx2, sx3, sx4, sx5, sx6, tf36, ev3_hold, sxo, sxc, sxp, sxq, sxr, sxs, sxl, sxm, simprocAttr, e3, e8]
    exact ⟨i + 1, _, rfl, HImp.nil _ _, ⟨by omega, hlex, rfl⟩, by omega⟩
  have e3 : (p = q) = False := eq_false h3
  rw [if_neg h3] at hlex
  refine ⟨?_⟩
  simp (config := { maxSteps := 4000000 }) only [↓sx0, ↓sx1, ↓sx2, ↓sx3, ↓sx4, ↓sx5, ↓sx6, sx0, sx1, sx2, sx3, sx4, sx5, sx6, tf36, ev3_hold, sxo, sxc, sxp, sxq, sxr, sxs, sxl, sxm, simprocAttr, e7]
  refine amid (at_1 (hr _) i1_len hu rfl fun ad => ?_)
  simp (config := { maxSteps := 4000000 }) only [↓sx0, ↓sx1, ↓sx2, ↓sx3, ↓sx4, ↓sx5, ↓sx6, sx0, sx1, sx2, sx3, sx4, sx5, sx6, tf36, ev3_hold, sxo, sxc, sxp, sxq, sxr, sxs, sxl, sxm, simprocAttr]
  refine at_1 (hr2 _) i1_len hu2 rfl fun ad => ?_
  simp (config := { maxSteps := 4000000 }) only [↓sx0, ↓sx1, ↓sx2, ↓sx3, ↓sx4, ↓sx5, ↓sx6, sx0, sx1, sx2, sx3, sx4, sx5, sx6, tf36, ev3_hold, sxo, sxc, sxp, sxq, sxr, sxs, sxl, sxm, simprocAttr, e3]
  refine at_1 (hr _) i1_len hu rfl fun ad => ?_
  simp (config := { maxSteps := 4000000 }) only [↓sx0, ↓sx1, ↓sx2, ↓sx3, ↓sx4, ↓sx5, ↓sx6, sx0, sx1, sx2, sx3, sx4, sx5, sx6, tf36, ev3_hold, sxo, sxc, sxp, sxq, sxr, sxs, sxl, sxm, simprocAttr]
  refine at_1 (hr2 _) i1_len hu2 rfl fun ad => ?_
  rw [← hlex]
  simp (config := { maxSteps := 4000000 }) only [↓sx0, ↓sx1, ↓sx2, ↓sx3, ↓sx4, ↓sx5, ↓sx6, sx0, sx1, sx2, sx3, sx4, sx5, sx6, tf36, ev3_hold, sxo, sxc, sxp, sxq, sxr, sxs, sxl, sxm, simprocAttr]
  try simp
def an1 (p : Hm) (z : Int) : Hm := (⟨p.1.skills, p.1.low, p.1.high, p.1.log, z⟩, p.2)
theorem an1_hdc (p : Hm) (z : Int) : hdc (an1 p z) = (hdc p).set 4 (I z) := rfl
theorem an1_an1 (p : Hm) (z z' : Int) : hdc (an1 p z') = (hdc (an1 p z)).set 4 (I z') := rfl
theorem an1_with {y : List Int} {k : Nat} {p : Hm} (h0 : p.1.ans = 0) : (withH y k p.1, p.2) = an1 p (if y.contains (k : Int) then 2 else 1) := by
  unfold withH an1
  rw [if_pos h0]
theorem mixY_facts (s : Stn) (ps : List Hm) (y : List Int) (n : Nat) (hn : ps.length = n) : ∃ MX : Nat → List Hm, MX 0 = ps ∧ MX n = psW y ps ∧ (∀ i, i < n → (MX i).length = n) ∧
    (∀ i p, ps[i]? = some p → (MX i)[i]? = some p) ∧ (∀ i p, ps[i]? = some p → p.1.ans = 0 → ∀ z, (MX i).set i (an1 p (if y.contains (i : Int) then 2 else 1)) = MX (i + 1) ∧ ((MX i).set i (an1 p z)).set i (an1 p (if y.contains (i : Int) then 2 else 1)) = MX (i + 1)) ∧ (∀ i p, ps[i]? = some p → ¬ p.1.ans = 0 → MX (i + 1) = MX i) := by
  have hlen := psW_len y ps
  subst hn
  have key : ∀ i p, ps[i]? = some p → p.1.ans = 0 → ((psW y ps).take i ++ ps.drop i).set i (an1 p (if y.contains (i : Int) then 2 else 1)) = (psW y ps).take (i + 1) ++ ps.drop (i + 1) := fun i p hp h0 => by
    rw [← an1_with h0]
    exact mix_set (by rw [psW_get, hp]; rfl) hlen
  refine ⟨fun i => (psW y ps).take i ++ ps.drop i, by simp, ?_, fun i hi => ?_, fun i p hp => ?_, fun i p hp h0 z => ⟨key i p hp h0, ?_⟩, fun i p hp h0 => ?_⟩
  · simp only []
    rw [List.take_of_length_le (by omega), List.drop_of_length_le (Nat.le_refl _), List.append_nil]
  · simp only []
    rw [List.length_append, List.length_take, List.length_drop]
    omega
  · simp only []
    rw [mix_get hlen (List.getElem?_eq_some_iff.1 hp).1, hp]
  · simp only []
    rw [List.set_set]
    exact key i p hp h0
  · simp only []
    refine mix_same (a := p) ?_ hp
    rw [psW_get, hp]
    simp only [Option.map_some, Option.some.injEq]
    unfold withH
    rw [if_neg h0]
theorem without_fn (w : World) (v : Value) (s : Stn) (hs : StOk w v s) (hsm : s.small) (vm : Value) (y : List Int) (hvm : Sl w vm 1 (ints y)) (hyl : y.length ≤ 1000) :
    SX.Fn Try.prog 18 [v, vm] w (fun _ => False) fun r N => CpN N r (withS s y) := by
  have dn : ∀ (g : Nat) (xs : List Value), det0 g xs = none := fun _ _ => rfl
  have hcp := fun (H : List HO) w' (hp : Hp ⟨w, fun _ => False⟩ H w') => copy_fn w' v s (hs.hp hp) hsm
  have hha := fun (x : Int) (H : List HO) w' (hp : Hp ⟨w, fun _ => False⟩ H w') => has_fn w' vm y (Sl.hp (w0 := ⟨w, fun _ => False⟩) hvm (fun _ _ => id) hp) (by omega) x
  obtain ⟨hv0, ps0, rfl, hps0, hsl0, hlg0⟩ := hs
  have hsm1 := hsm.1
  unfold CpN at hcp ⊢
  rw [withS_len]
  refine walk [] [] (det0_ok _ _) Try.func18 rfl Try.ntmps18 res18 (by kernel_rfl) no_facts ?_
  simp (config := { maxSteps := 4000000 }) only [↓sx0, ↓sx1, ↓sx2, ↓sx3, ↓sx4, ↓sx5, ↓sx6, sx0, sx1, sx2, sx3, sx4, sx5, sx6, tf18, ev3_hold, sxo, sxc, sxp, sxq, sxr, sxs, sxl, sxm, simprocAttr, dn]
  refine CallOb.pureH (fun w' hp => hcp _ w' hp) ?_
  rintro q N ⟨ao, co, ps, rfl, hps, hnil, DF, rfl, hdf⟩
  have hpl : s.hands.length = ps.length := by rw [← hps, List.length_map]
  obtain ⟨MX, hM0, hMn, hMl, hMg, hM1, hM2⟩ := mixY_facts s ps y s.hands.length hpl.symm
  refine ⟨?_⟩
  simp (config := { maxSteps := 4000000 }) only [↓sx0, ↓sx1, ↓sx2, ↓sx3, ↓sx4, ↓sx5, ↓sx6, sx0, sx1, sx2, sx3, sx4, sx5, sx6, tf18, ev3_hold, sxo, sxc, sxp, sxq, sxr, sxs, sxl, sxm, simprocAttr]
  refine loop_constH (HO.row (.slice ao s.hands.length co) 44 5 (cat hdc (MX 0)) :: DF) (by rw [hM0]; exact HImp.refl _ _) [(6, 6), (9, 35)] (fun i : Nat => [(6, I i)]) (fun i H1 => i ≤ s.hands.length ∧ H1 = HO.row (.slice ao s.hands.length co) 44 5 (cat hdc (MX i)) :: DF) (fun i => s.hands.length - i) 0 ?_ ⟨Nat.zero_le _, rfl⟩ ?_
  · simp (config := { maxSteps := 4000000 }) only [↓sx0, ↓sx1, ↓sx2, ↓sx3, ↓sx4, ↓sx5, ↓sx6, sx0, sx1, sx2, sx3, sx4, sx5, sx6, tf18, ev3_hold, sxo, sxc, sxp, sxq, sxr, sxs, sxl, sxm, simprocAttr]
    try simp
  rintro i H1 g1 ⟨hi, rfl⟩
  by_cases hin : i = s.hands.length
  · subst hin
    have e7 : ((s.hands.length : Int) < (s.hands.length : Int)) = False := eq_false (by omega)
    rw [hMn]
    refine ⟨?_⟩
    simp (config := { maxSteps := 4000000 }) only [↓sx0, ↓sx1, ↓sx2, ↓sx3, ↓sx4, ↓sx5, ↓sx6, sx0, sx1, sx2, sx3, sx4, sx5, sx6, tf18, ev3_hold, sxo, sxc, sxp, sxq, sxr, sxs, sxl, sxm, simprocAttr, e7]
    refine ⟨ao, co, psW y ps, rfl, psW_map hps, fun h => by rw [hnil h]; rfl, DF, rfl, fun p hp => ?_⟩
    · obtain ⟨j, hj⟩ := List.getElem?_of_mem hp
      rw [psW_get] at hj
      cases hq : ps[j]? with
      | none => rw [hq] at hj; cases hj
      | some p0 =>
        rw [hq] at hj
        cases hj
        rw [lgv_with, (withH_log y j p0.1).1]
        exact hdf p0 (List.mem_of_getElem? hq)
  have e7 : ((i : Int) < (s.hands.length : Int)) = True := eq_true (by omega)
  have e8 : wr (i + 1) = ((i + 1 : Nat) : Int) := (wrap_id (by omega)).trans (by omega)
  obtain ⟨p, hp⟩ : ∃ p, ps[i]? = some p := ⟨_, List.getElem?_eq_getElem (by omega)⟩
  have hg := hMg i p hp
  have hML := hMl i (by omega)
  cases ao with
  | none =>
    have hz := hnil rfl
    rw [hz] at hp
    simp at hp
  | some adh =>
  have hr : ∀ l : List Hm, l.length = s.hands.length → Rdv ⟨w, fun _ => False⟩ (HO.row (.slice (some adh) s.hands.length co) 44 5 (cat hdc l) :: DF) (.slice (some adh) s.hands.length co) 5 (cat hdc l) := fun l hl => row_rdv (E := 44) List.mem_cons_self ⟨_, _, _, rfl, by rw [cat_len hdc_len, hl], fun h => by cases h⟩
  by_cases h0 : p.1.ans = 0
  · have z0 : (p.1.ans = 0) = True := eq_true h0
    have h1 := fun z => (hM1 i p hp h0 z).1
    have h2 := fun z => (hM1 i p hp h0 z).2
    have hsl1 : ((MX i).set i (an1 p 1)).length = s.hands.length := by rw [List.length_set]; exact hML
    have hsg1 : ((MX i).set i (an1 p 1))[i]? = some (an1 p 1) := List.getElem?_set_self (by omega)
    by_cases hin2 : (i : Int) ∈ y
    · have hc : y.contains (i : Int) = true := List.contains_iff_mem.2 hin2
      have hha2 := hha (i : Int)
      rw [decide_eq_true hin2] at hha2
      simp only [hc, if_true] at h1 h2
      refine ⟨?_⟩
      simp (config := { maxSteps := 4000000 }) only [↓sx0, ↓sx1, ↓sx2, ↓sx3, ↓sx4, ↓sx5, ↓sx6, sx0, sx1, sx2, sx3, sx4, sx5, sx6, tf18, ev3_hold, sxo, sxc, sxp, sxq, sxr, sxs, sxl, sxm, simprocAttr, e7]
      refine amid (at_f (hr _ hML) hdc_len hg (o := 4) (x := I p.1.ans) rfl fun ad => ?_)
      simp (config := { maxSteps := 4000000 }) only [↓sx0, ↓sx1, ↓sx2, ↓sx3, ↓sx4, ↓sx5, ↓sx6, sx0, sx1, sx2, sx3, sx4, sx5, sx6, tf18, ev3_hold, sxo, sxc, sxp, sxq, sxr, sxs, sxl, sxm, simprocAttr, z0, e7]
      refine ⟨by omega, adh, rfl, ?_⟩
      refine wr_f1 (A := []) (an1 p 1) rfl hdc_len hML hg (an1_hdc p 1) (by omega) ?_
      simp (config := { maxSteps := 4000000 }) only [↓sx0, ↓sx1, ↓sx2, ↓sx3, ↓sx4, ↓sx5, ↓sx6, sx0, sx1, sx2, sx3, sx4, sx5, sx6, tf18, ev3_hold, sxo, sxc, sxp, sxq, sxr, sxs, sxl, sxm, simprocAttr, dn]
      refine CallOb.pureH (fun w' hp => hha2 _ w' hp) ?_
      rintro q N2 rfl
      refine ⟨?_⟩
      simp (config := { maxSteps := 4000000 }) only [↓sx0, ↓sx1, ↓sx2, ↓sx3, ↓sx4, ↓sx5, ↓sx6, sx0, sx1, sx2, sx3, sx4, sx5, sx6, tf18, ev3_hold, sxo, sxc, sxp, sxq, sxr, sxs, sxl, sxm, simprocAttr, e7]
      refine ⟨by omega, adh, rfl, ?_⟩
      refine wr_f1 (A := N2) (an1 p 2) rfl hdc_len hsl1 hsg1 (an1_an1 p 1 2) (by omega) ?_
      rw [h2 1]
      simp (config := { maxSteps := 4000000 }) only [↓sx0, ↓sx1, ↓sx2, ↓sx3, ↓sx4, ↓sx5, ↓sx6, sx0, sx1, sx2, sx3, sx4, sx5, sx6, tf18, ev3_hold, sxo, sxc, sxp, sxq, sxr, sxs, sxl, sxm, simprocAttr, e8]
      exact ⟨i + 1, _, rfl, HImp.app _ _ _, ⟨by omega, rfl⟩, by omega⟩
    · have hc : y.contains (i : Int) = false := by rw [Bool.eq_false_iff]; exact fun h => hin2 (List.contains_iff_mem.1 h)
      have hha2 := hha (i : Int)
      rw [decide_eq_false hin2] at hha2
      simp only [hc, Bool.false_eq_true, if_false] at h1 h2
      refine ⟨?_⟩
      simp (config := { maxSteps := 4000000 }) only [↓sx0, ↓sx1, ↓sx2, ↓sx3, ↓sx4, ↓sx5, ↓sx6, sx0, sx1, sx2, sx3, sx4, sx5, sx6, tf18, ev3_hold, sxo, sxc, sxp, sxq, sxr, sxs, sxl, sxm, simprocAttr, e7]
      refine amid (at_f (hr _ hML) hdc_len hg (o := 4) (x := I p.1.ans) rfl fun ad => ?_)
      simp (config := { maxSteps := 4000000 }) only [↓sx0, ↓sx1, ↓sx2, ↓sx3, ↓sx4, ↓sx5, ↓sx6, sx0, sx1, sx2, sx3, sx4, sx5, sx6, tf18, ev3_hold, sxo, sxc, sxp, sxq, sxr, sxs, sxl, sxm, simprocAttr, z0, e7]
      refine ⟨by omega, adh, rfl, ?_⟩
      refine wr_f1 (A := []) (an1 p 1) rfl hdc_len hML hg (an1_hdc p 1) (by omega) ?_
      rw [h1 0]
      simp (config := { maxSteps := 4000000 }) only [↓sx0, ↓sx1, ↓sx2, ↓sx3, ↓sx4, ↓sx5, ↓sx6, sx0, sx1, sx2, sx3, sx4, sx5, sx6, tf18, ev3_hold, sxo, sxc, sxp, sxq, sxr, sxs, sxl, sxm, simprocAttr, dn]
      refine CallOb.pureH (fun w' hp => hha2 _ w' hp) ?_
      rintro q N2 rfl
      refine ⟨?_⟩
      simp (config := { maxSteps := 4000000 }) only [↓sx0, ↓sx1, ↓sx2, ↓sx3, ↓sx4, ↓sx5, ↓sx6, sx0, sx1, sx2, sx3, sx4, sx5, sx6, tf18, ev3_hold, sxo, sxc, sxp, sxq, sxr, sxs, sxl, sxm, simprocAttr, e8]
      exact ⟨i + 1, _, rfl, HImp.app _ _ _, ⟨by omega, rfl⟩, by omega⟩
  · have z0 : (p.1.ans = 0) = False := eq_false h0
    have h1 := hM2 i p hp h0
    refine ⟨?_⟩
    simp (config := { maxSteps := 4000000 }) only [↓sx0, ↓sx1, ↓sx2, ↓sx3, ↓sx4, ↓sx5, ↓sx6, sx0, sx1, sx2, sx3, sx4, sx5, sx6, tf18, ev3_hold, sxo, sxc, sxp, sxq, sxr, sxs, sxl, sxm, simprocAttr, e7]
    refine amid (at_f (hr _ hML) hdc_len hg (o := 4) (x := I p.1.ans) rfl fun ad => ?_)
    simp (config := { maxSteps := 4000000 }) only [↓sx0, ↓sx1, ↓sx2, ↓sx3, ↓sx4, ↓sx5, ↓sx6, sx0, sx1, sx2, sx3, sx4, sx5, sx6, tf18, ev3_hold, sxo, sxc, sxp, sxq, sxr, sxs, sxl, sxm, simprocAttr, z0, e8]
    exact ⟨i + 1, _, rfl, HImp.refl _ _, ⟨by omega, by rw [h1]⟩, by omega⟩
end Go.Proofs.Ytgpglmcbopfddaa

namespace Go.Proofs.Ytgpglmcbopfddaa
open Go.RowKit Go.SX
set_option maxRecDepth 10000
set_option maxHeartbeats 0
set_option linter.unusedSimpArgs false
set_option linter.unusedVariables false
def MisW (a : Option Addr) (c : Nat) (m : List Int) (MF : List HO) : Prop := (a = none ∧ c = 0 ∧ m = [] ∧ MF = []) ∨ ((a = none → m = []) ∧ MF = [HO.row (.slice a m.length c) 3 1 (ints m)])
theorem MisW.sl {a : Option Addr} {c : Nat} {m : List Int} {MF H : List HO} (h : MisW a c m MF) (hm : ∀ h ∈ MF, h ∈ H) {w0 : Base} {w : World} (hp : Hp w0 H w) : Sl w (.slice a m.length c) 1 (ints m) := by
  rcases h with ⟨rfl, rfl, rfl, _⟩ | ⟨h1, rfl⟩
  · exact Sl.nil _ _
  · exact row_hp (hm _ List.mem_cons_self) hp
theorem MisW.got {a : Option Addr} {c : Nat} {m : List Int} {MF N : List HO} (h : MisW a c m MF) (hm : ∀ h ∈ MF, h ∈ N) : Got (.slice a m.length c) 3 1 i1 m N := by
  rcases h with ⟨rfl, rfl, rfl, _⟩ | ⟨h1, rfl⟩
  · exact Got.nil _
  · exact Got.row rfl (hm _ List.mem_cons_self) h1
def silB (s : Stn) (b : Nat → Bool) (h : Nat) : Bool := (List.range h).all fun i => !b i || (s.hands[i]?).elim false fun x => decide (x.ans = 0)
theorem silB_succ (s : Stn) (b : Nat → Bool) (h : Nat) : silB s b (h + 1) = (silB s b h && (!b h || (s.hands[h]?).elim false fun x => decide (x.ans = 0))) := by
  unfold silB
  rw [List.range_succ, List.all_append]
  simp
theorem silB_sub (s : Stn) (b : Nat → Bool) : silB s b s.hands.length = true ↔ (pick b s.hands.length).Sublist (uns s) := by
  unfold uns
  obtain ⟨p, hp⟩ : ∃ p : Nat → Bool, (fun i => (s.hands[i]?).elim false fun h => decide (h.ans = 0)) = p := ⟨_, rfl⟩
  have h1 : silB s b s.hands.length = (List.range s.hands.length).all fun i => !b i || p i := by rw [← hp]; rfl
  rw [h1, hp, List.all_eq_true]
  constructor
  · intro h
    unfold pick
    refine List.Sublist.map _ ?_
    have : (List.range s.hands.length).filter b = ((List.range s.hands.length).filter p).filter b := by
      rw [List.filter_filter]
      refine List.filter_congr fun i hi => ?_
      have := h i hi
      cases hb : b i with
      | false => simp
      | true => rw [hb] at this; simpa using this
    rw [this]
    exact List.filter_sublist
  · intro h i hi
    cases hb : b i with
    | false => rfl
    | true =>
      have h2 : (i : Int) ∈ pick b s.hands.length := by
        unfold pick
        exact List.mem_map.2 ⟨i, List.mem_filter.2 ⟨hi, hb⟩, rfl⟩
      have h3 := h.subset h2
      unfold pick at h3
      obtain ⟨k, hk, hki⟩ := List.mem_map.1 h3
      have : k = i := by omega
      subst this
      simpa using (List.mem_filter.1 hk).2
def doneS (s : Stn) (silent : Int) (q : Nat) (z : List Int) : Prop := ∃ k, k < q ∧ pick k.testBit s.hands.length = z ∧ lots s silent z
theorem doneS_no {s : Stn} {silent : Int} {q : Nat} (h : ¬ lots s silent (pick q.testBit s.hands.length)) (z : List Int) : doneS s silent q z ↔ doneS s silent (q + 1) z := by
  constructor
  · rintro ⟨k, h1, h2, h3⟩
    exact ⟨k, by omega, h2, h3⟩
  · rintro ⟨k, h1, h2, h3⟩
    by_cases e : k = q
    · subst e
      rw [h2] at h
      exact absurd h3 h
    · exact ⟨k, by omega, h2, h3⟩
theorem doneS_yes {s : Stn} {silent : Int} {q : Nat} {x : List Int} (hx : pick q.testBit s.hands.length = x) (h : lots s silent x) (z : List Int) : (doneS s silent q z ∨ z = x) ↔ doneS s silent (q + 1) z := by
  constructor
  · rintro (⟨k, h1, h2, h3⟩ | rfl)
    · exact ⟨k, by omega, h2, h3⟩
    · exact ⟨q, by omega, hx, h⟩
  · rintro ⟨k, h1, h2, h3⟩
    by_cases e : k = q
    · subst e
      exact .inr (by rw [← h2, hx])
    · exact .inl ⟨k, by omega, h2, h3⟩
theorem doneS_all {s : Stn} {silent : Int} (z : List Int) : doneS s silent (2 ^ s.hands.length) z ↔ lots s silent z := by
  constructor
  · rintro ⟨k, h1, h2, h3⟩
    exact h3
  · intro h
    have h1 : z.Sublist (idx s.hands.length) := h.1.trans (pick_sub _ _)
    obtain ⟨k, hk, he⟩ := sub_pick h1
    exact ⟨k, hk, he, h⟩
end Go.Proofs.Ytgpglmcbopfddaa

namespace Go.Proofs.Ytgpglmcbopfddaa
open Go.RowKit Go.SX
set_option maxRecDepth 10000
set_option maxHeartbeats 0
set_option linter.unusedSimpArgs false
set_option linter.unusedVariables false
theorem rwho_fn (w : World) (v : Value) (s : Stn) (hs : StOk w v s) (hsm : s.small) (h5 : s.okB = true → s.hands.length ≤ 5) (call : Int) (vs : Value) (seats : List Int) (hvs : Sl w vs 1 (ints seats)) (len silent : Int) :
    SX.Fn Try.prog 13 [v, I call, vs, I len, I silent] w (fun _ => False) fun r N => ∃ t x m e, r = .tuple #[I t, x, I e] ∧ WhoP s call seats len silent t m e ∧ Got x 3 1 i1 m N := by
  have dn : ∀ (g : Nat) (xs : List Value), det0 g xs = none := fun _ _ => rfl
  have hck := fun (H : List HO) w' (hp : Hp ⟨w, fun _ => False⟩ H w') => rcheck_fn w' v s (hs.hp hp) hsm
  have hwi := fun w' => from_fn w' silent 0 10
  have hcs := fun (H : List HO) w' (hp : Hp ⟨w, fun _ => False⟩ H w') => rcseats_fn w' v s (hs.hp hp) hsm call vs seats (Sl.hp (w0 := ⟨w, fun _ => False⟩) hvs (fun _ _ => id) hp) len
  have hwo := fun (vm : Value) (y : List Int) (hyl : y.length ≤ 1000) (H : List HO) w' (hp : Hp ⟨w, fun _ => False⟩ H w') (hvm : Sl w' vm 1 (ints y)) => without_fn w' v s (hs.hp hp) hsm vm y hvm hyl
  have hmu := fun (hc : 0 ≤ call ∧ call ≤ 100) (hl : 1 ≤ len ∧ len ≤ 40) (hsl5 : seats.length ≤ 1000) (v2 : Value) (s2 : Stn) (hok : s2.okB = true) (H : List HO) w' (hp : Hp ⟨w, fun _ => False⟩ H w') (hs2 : StOk w' v2 s2) => by
    have := rmus_fn w' v2 s2 hs2 hok call len hc hl vs seats (Sl.hp (w0 := ⟨w, fun _ => False⟩) hvs (fun _ _ => id) hp) hsl5
    rw [rmusG_eq hok hc hl] at this
    exact this
  obtain ⟨hv, ps, rfl, hps, hsl, hlg⟩ := hs
  have hpl : s.hands.length = ps.length := by rw [← hps, List.length_map]
  obtain ⟨a, n, c, rfl⟩ := hsl.shape
  have hn := hsl.le hdc_len (by omega)
  subst hn
  have hr := fun H => hsl.rd0 H
  obtain ⟨asx, ns, cs, rfl⟩ := hvs.shape
  unfold WhoP whoE
  refine walk [] [] (det0_ok _ _) Try.func13 rfl Try.ntmps13 res13 (by kernel_rfl) no_facts ?_
  simp (config := { maxSteps := 4000000 }) only [↓sx0, ↓sx1, ↓sx2, ↓sx3, ↓sx4, ↓sx5, ↓sx6, sx0, sx1, sx2, sx3, sx4, sx5, sx6, tf13, ev3_hold, sxo, sxc, sxp, sxq, sxr, sxs, sxl, sxm, simprocAttr, dn]
  refine CallOb.pureH (fun w' hp => hck _ w' hp) ?_
  rintro q N0 rfl
  cases hB : s.okB with
  | false =>
    have he : callE s call seats len = 70 := by unfold callE; rw [hB]; rfl
    rw [he]
    refine ⟨?_⟩
    simp (config := { maxSteps := 4000000 }) only [↓sx0, ↓sx1, ↓sx2, ↓sx3, ↓sx4, ↓sx5, ↓sx6, sx0, sx1, sx2, sx3, sx4, sx5, sx6, tf13, ev3_hold, sxo, sxc, sxp, sxq, sxr, sxs, sxl, sxm, simprocAttr, dn]
    exact ⟨0, _, [], 70, rfl, .inl ⟨rfl, rfl, rfl⟩, Got.nil _⟩
  | true =>
  have hn5 := h5 hB
  cases hI : inB silent 0 10 with
  | false =>
    rw [hI] at hwi
    refine ⟨?_⟩
    simp (config := { maxSteps := 4000000 }) only [↓sx0, ↓sx1, ↓sx2, ↓sx3, ↓sx4, ↓sx5, ↓sx6, sx0, sx1, sx2, sx3, sx4, sx5, sx6, tf13, ev3_hold, sxo, sxc, sxp, sxq, sxr, sxs, sxl, sxm, simprocAttr, dn]
    refine CallOb.pureH (fun w' hp => hwi w') ?_
    rintro q N1 rfl
    refine ⟨?_⟩
    simp (config := { maxSteps := 4000000 }) only [↓sx0, ↓sx1, ↓sx2, ↓sx3, ↓sx4, ↓sx5, ↓sx6, sx0, sx1, sx2, sx3, sx4, sx5, sx6, tf13, ev3_hold, sxo, sxc, sxp, sxq, sxr, sxs, sxl, sxm, simprocAttr, dn]
    exact ⟨0, _, [], 1, rfl, .inl ⟨rfl, rfl, rfl⟩, Got.nil _⟩
  | true =>
  rw [hI] at hwi
  have hsil := (inB_iff _ _ _).1 hI
  rw [if_neg (show ¬ ((true && !true) = true) by simp)]
  obtain ⟨E, hE⟩ : ∃ E, callE s call seats len = E := ⟨_, rfl⟩
  rw [hE] at hcs ⊢
  refine ⟨?_⟩
  simp (config := { maxSteps := 4000000 }) only [↓sx0, ↓sx1, ↓sx2, ↓sx3, ↓sx4, ↓sx5, ↓sx6, sx0, sx1, sx2, sx3, sx4, sx5, sx6, tf13, ev3_hold, sxo, sxc, sxp, sxq, sxr, sxs, sxl, sxm, simprocAttr, dn]
  refine CallOb.pureH (fun w' hp => hwi w') ?_
  rintro q N1 rfl
  refine ⟨?_⟩
  simp (config := { maxSteps := 4000000 }) only [↓sx0, ↓sx1, ↓sx2, ↓sx3, ↓sx4, ↓sx5, ↓sx6, sx0, sx1, sx2, sx3, sx4, sx5, sx6, tf13, ev3_hold, sxo, sxc, sxp, sxq, sxr, sxs, sxl, sxm, simprocAttr, dn]
  refine CallOb.pureH (fun w' hp => hcs _ w' hp) ?_
  rintro q N2 rfl
  by_cases hE0 : E = 0
  case neg =>
    have z0 : (E = 0) = False := eq_false hE0
    refine ⟨?_⟩
    simp (config := { maxSteps := 4000000 }) only [↓sx0, ↓sx1, ↓sx2, ↓sx3, ↓sx4, ↓sx5, ↓sx6, sx0, sx1, sx2, sx3, sx4, sx5, sx6, tf13, ev3_hold, sxo, sxc, sxp, sxq, sxr, sxs, sxl, sxm, simprocAttr, z0]
    exact ⟨0, _, [], E, rfl, .inl ⟨rfl, rfl, rfl⟩, Got.nil _⟩
  obtain ⟨hok, hc100, hl40, hs5, hs255⟩ := callE_zero (hE.trans hE0)
  subst hE0
  have hmu := hmu hc100 hl40 (by omega)
  have hms : ∀ y j l, musG (withS s y) call len seats = some (j, l) → musW s call len seats y = some (call + (j : Nat)) := fun y j l h => mus_some h
  have hmn : ∀ y, musG (withS s y) call len seats = none → musW s call len seats y = none := fun y h => mus_none h
  obtain ⟨mus, hmus⟩ : ∃ mus, musW s call len seats = mus := ⟨_, rfl⟩
  rw [hmus] at hms hmn ⊢
  have hpw := shl10 ⟨ps.length, by omega⟩
  simp only [] at hpw
  have hp32 : 2 ^ ps.length ≤ 32 := Nat.le_trans (Nat.pow_le_pow_right (by decide) (show ps.length ≤ 5 by omega)) (by decide)
  have e9 := u64w (i := ps.length) (by omega)
  have hall : ∀ z, doneS s silent (2 ^ ps.length) z ↔ lots s silent z := fun z => by rw [← hpl]; exact doneS_all z
  refine ⟨?_⟩
  simp (config := { maxSteps := 4000000 }) only [↓sx0, ↓sx1, ↓sx2, ↓sx3, ↓sx4, ↓sx5, ↓sx6, sx0, sx1, sx2, sx3, sx4, sx5, sx6, tf13, ev3_hold, sxo, sxc, sxp, sxq, sxr, sxs, sxl, sxm, simprocAttr]
  refine loop_constH [] (HImp.nil _ _) [(10, 19), (34, 105)] (fun q : Nat × Int × List Int × (Option Addr × Nat) × List HO => [(10, I q.2.1), (11, .slice q.2.2.2.1.1 q.2.2.1.length q.2.2.2.1.2), (13, I q.1)])
    (fun q H1 => q.1 ≤ 2 ^ ps.length ∧ MaxI mus (doneS s silent q.1) q.2.1 q.2.2.1 ∧ MisW q.2.2.2.1.1 q.2.2.2.1.2 q.2.2.1 q.2.2.2.2 ∧ q.2.2.1.length ≤ 100 ∧ H1 = q.2.2.2.2) (fun q => 2 ^ ps.length - q.1) (0, -1, [], (none, 0), []) ?_ ⟨Nat.zero_le _, (MaxI.init mus).congr fun y => ⟨fun h => h.elim, fun ⟨k, h, _⟩ => by omega⟩, .inl ⟨rfl, rfl, rfl, rfl⟩, Nat.zero_le _, rfl⟩ ?_
  · simp (config := { maxSteps := 4000000 }) only [↓sx0, ↓sx1, ↓sx2, ↓sx3, ↓sx4, ↓sx5, ↓sx6, sx0, sx1, sx2, sx3, sx4, sx5, sx6, tf13, ev3_hold, sxo, sxc, sxp, sxq, sxr, sxs, sxl, sxm, simprocAttr]
    try simp
  rintro ⟨st, t, m, ⟨am, cm⟩, MF1⟩ MF g1 hinv
  simp only [] at hinv
  obtain ⟨hst, hmax, hmis, hml, rfl⟩ := hinv
  by_cases hse : st = 2 ^ ps.length
  · have e4 : ((st : Int) < ((2 ^ ps.length : Nat) : Int)) = False := eq_false (by omega)
    rw [hse] at hmax
    have hmax2 := hmax.congr hall
    refine ⟨?_⟩
    simp (config := { maxSteps := 4000000 }) only [↓sx0, ↓sx1, ↓sx2, ↓sx3, ↓sx4, ↓sx5, ↓sx6, sx0, sx1, sx2, sx3, sx4, sx5, sx6, tf13, ev3_hold, sxo, sxc, sxp, sxq, sxr, sxs, sxl, sxm, simprocAttr, e9, hpw, e4]
    exact ⟨by omega, t, _, m, 0, rfl, .inr (.inr ⟨rfl, hmax2⟩), hmis.got (by simp +contextual)⟩
  have hslt : st < 2 ^ ps.length := by omega
  have e4 : ((st : Int) < ((2 ^ ps.length : Nat) : Int)) = True := eq_true (by omega)
  have e8 : wr ((st : Int) + 1) = ((st + 1 : Nat) : Int) := (wrap_id (by omega)).trans (by omega)
  have hbit : ∀ i, i < ps.length → (bitS .and .i64 (((st : Nat) : Int).fdiv (2 ^ (min i IntKind.i64.bits))) 1 == 1) = st.testBit i := fun i hi => bit10 ⟨st, by omega⟩ ⟨i, by omega⟩
  have hgh : ∀ i (p : Hm), ps[i]? = some p → s.hands[i]? = some p.1 := fun i p hp => by rw [← hps, List.getElem?_map, hp]; rfl
  have hA1 : ∀ i, pick st.testBit (i + 1) = pick st.testBit i ++ (if st.testBit i then [(i : Int)] else []) := fun i => pick_succ _ _
  have hAl : ∀ i, (pick st.testBit i).length ≤ i := fun i => by
    have := (pick_sub st.testBit i).length_le
    rw [idx_len] at this
    exact this
  have hS1 := silB_succ s st.testBit
  have hSs := silB_sub s st.testBit
  have hyes := fun (x : List Int) (hx : pick st.testBit s.hands.length = x) (h : lots s silent x) (z : List Int) => doneS_yes (s := s) (silent := silent) hx h z
  have hnot := fun (h : ¬ lots s silent (pick st.testBit s.hands.length)) (z : List Int) => doneS_no h z
  rw [hpl] at hSs hyes hnot
  obtain ⟨A, hA⟩ : ∃ A, pick st.testBit = A := ⟨_, rfl⟩
  obtain ⟨S, hS⟩ : ∃ S, silB s st.testBit = S := ⟨_, rfl⟩
  have hA0 : A 0 = [] := by rw [← hA]; rfl
  have hS0 : S 0 = true := by rw [← hS]; rfl
  rw [hA] at hA1 hAl hSs hyes hnot
  rw [hS] at hS1 hSs
  refine ⟨?_⟩
  simp (config := { maxSteps := 4000000 }) only [↓sx0, ↓sx1, ↓sx2, ↓sx3, ↓sx4, ↓sx5, ↓sx6, sx0, sx1, sx2, sx3, sx4, sx5, sx6, tf13, ev3_hold, sxo, sxc, sxp, sxq, sxr, sxs, sxl, sxm, simprocAttr, e9, hpw, e4]
  refine ⟨by omega, ?_⟩
  refine loop_constH (HO.row (.slice none 0 0) 3 1 (ints (A 0)) :: MF) (by rw [hA0]; exact HImp.nilRow _ _ _ _) [(14, 16), (43, 69)] (fun q : Nat × Option Addr × Nat => [(14, .slice q.2.1 (A q.1).length q.2.2), (15, .bool (S q.1)), (16, I q.1)])
    (fun q H1 => q.1 ≤ ps.length ∧ (q.2.1 = none → A q.1 = []) ∧ H1 = HO.row (.slice q.2.1 (A q.1).length q.2.2) 3 1 (ints (A q.1)) :: MF) (fun q => ps.length - q.1) (0, none, 0) ?_ ⟨Nat.zero_le _, fun _ => hA0, by simp only []; rw [hA0]; rfl⟩ ?_
  · simp (config := { maxSteps := 4000000 }) only [↓sx0, ↓sx1, ↓sx2, ↓sx3, ↓sx4, ↓sx5, ↓sx6, sx0, sx1, sx2, sx3, sx4, sx5, sx6, tf13, ev3_hold, sxo, sxc, sxp, sxq, sxr, sxs, sxl, sxm, simprocAttr]
    simp [hA0, hS0]
  rintro ⟨i, aw, cw⟩ H1 g1 hinv
  simp only [] at hinv
  obtain ⟨hi, haw, rfl⟩ := hinv
  by_cases hin : i = ps.length
  case neg =>
    have f7 : ((i : Int) < (ps.length : Int)) = True := eq_true (by omega)
    have f8 : wr (i + 1) = ((i + 1 : Nat) : Int) := (wrap_id (by omega)).trans (by omega)
    have f9 := u64w (i := i) (by omega)
    obtain ⟨p, hp⟩ : ∃ p, ps[i]? = some p := ⟨_, List.getElem?_eq_getElem (by omega)⟩
    have hA1 := hA1 i
    have hS1 := hS1 i
    rw [hgh i p hp] at hS1
    simp only [Option.elim_some] at hS1
    have hbit := hbit i (by omega)
    have hAl := hAl i
    cases hb : st.testBit i with
    | false =>
      rw [hb] at hbit hA1 hS1
      have e3 : (bitS .and .i64 (((st : Nat) : Int).fdiv (2 ^ (min i IntKind.i64.bits))) 1 = 1) = False := eq_false (by simpa using hbit)
      rw [if_neg (by simp), List.append_nil] at hA1
      simp only [Bool.not_false, Bool.true_or, Bool.and_true] at hS1
      refine ⟨?_⟩
      simp (config := { maxSteps := 4000000 }) only [↓sx0, ↓sx1, ↓sx2, ↓sx3, ↓sx4, ↓sx5, ↓sx6, sx0, sx1, sx2, sx3, sx4, sx5, sx6, tf13, ev3_hold, sxo, sxc, sxp, sxq, sxr, sxs, sxl, sxm, simprocAttr, f7, f8, f9, e3]
      refine ⟨by omega, (i + 1, aw, cw), _, by simp only []; rw [hA1, hS1]; first | exact ⟨rfl, rfl, trivial⟩ | exact ⟨rfl, rfl⟩ | exact ⟨rfl, trivial⟩ | exact ⟨rfl, rfl, rfl⟩, HImp.refl _ _, ⟨by simp only []; omega, by simp only []; rw [hA1]; exact haw, by simp only []; rw [hA1]⟩, by simp only []; omega⟩
    | true =>
      rw [hb] at hbit hA1 hS1
      have e3 : (bitS .and .i64 (((st : Nat) : Int).fdiv (2 ^ (min i IntKind.i64.bits))) 1 = 1) = True := eq_true (by simpa using hbit)
      rw [if_pos rfl] at hA1
      simp only [Bool.not_true, Bool.false_or] at hS1
      have hAl2 : (A i).length + 1 = (A (i + 1)).length := by rw [hA1, List.length_append]; rfl
      refine ⟨?_⟩
      simp (config := { maxSteps := 4000000 }) only [↓sx0, ↓sx1, ↓sx2, ↓sx3, ↓sx4, ↓sx5, ↓sx6, sx0, sx1, sx2, sx3, sx4, sx5, sx6, tf13, ev3_hold, sxo, sxc, sxp, sxq, sxr, sxs, sxl, sxm, simprocAttr, f7, f8, f9, e3]
      refine ⟨by omega, ?_⟩
      intro b4
      refine app_one (l := A i) (i : Int) (HImp.refl _ _) i1_len i1_one (by omega) fun ad3 c3 => ?_
      rw [hAl2, ← hA1]
      cases hSi : S i with
      | false =>
        rw [hSi, Bool.false_and] at hS1
        simp (config := { maxSteps := 4000000 }) only [↓sx0, ↓sx1, ↓sx2, ↓sx3, ↓sx4, ↓sx5, ↓sx6, sx0, sx1, sx2, sx3, sx4, sx5, sx6, tf13, ev3_hold, sxo, sxc, sxp, sxq, sxr, sxs, sxl, sxm, simprocAttr, f7, f8]
        exact ⟨(i + 1, some ad3, c3), _, by simp only []; rw [hS1]; first | exact ⟨trivial, rfl, trivial⟩ | exact ⟨trivial, rfl⟩ | exact ⟨rfl, rfl, trivial⟩ | exact ⟨rfl, rfl⟩ | simp, HImp.refl _ _, ⟨by simp only []; omega, fun h => (by cases h), rfl⟩, by simp only []; omega⟩
      | true =>
        rw [hSi, Bool.true_and] at hS1
        obtain ⟨Bz, hBz⟩ : ∃ Bz, decide (p.1.ans = 0) = Bz := ⟨_, rfl⟩
        simp (config := { maxSteps := 4000000 }) only [↓sx0, ↓sx1, ↓sx2, ↓sx3, ↓sx4, ↓sx5, ↓sx6, sx0, sx1, sx2, sx3, sx4, sx5, sx6, tf13, ev3_hold, sxo, sxc, sxp, sxq, sxr, sxs, sxl, sxm, simprocAttr, f7]
        refine amid (at_f (hr _) hdc_len hp (o := 4) (x := I p.1.ans) rfl fun ad => ?_)
        simp (config := { maxSteps := 4000000 }) only [↓sx0, ↓sx1, ↓sx2, ↓sx3, ↓sx4, ↓sx5, ↓sx6, sx0, sx1, sx2, sx3, sx4, sx5, sx6, tf13, ev3_hold, sxo, sxc, sxp, sxq, sxr, sxs, sxl, sxm, simprocAttr, f8]
        exact ⟨(i + 1, some ad3, c3), _, by simp only []; rw [hS1]; first | exact ⟨trivial, rfl, trivial⟩ | exact ⟨trivial, rfl⟩ | exact ⟨rfl, rfl, trivial⟩ | exact ⟨rfl, rfl⟩ | simp, HImp.refl _ _, ⟨by simp only []; omega, fun h => (by cases h), rfl⟩, by simp only []; omega⟩
  subst hin
  have f7 : ((ps.length : Int) < (ps.length : Int)) = False := eq_false (by omega)
  have hAln := hAl ps.length
  obtain ⟨x, hx⟩ : ∃ x, A ps.length = x := ⟨_, rfl⟩
  obtain ⟨Sn, hSn⟩ : ∃ Sn, S ps.length = Sn := ⟨_, rfl⟩
  rw [hx] at haw hSs hnot hAln ⊢
  rw [hSn] at hSs ⊢
  have hyes := hyes x hx
  cases Sn with
  | false =>
    have hno : ¬ lots s silent x := fun h => by
      have := hSs.2 h.1
      cases this
    have hmax2 := hmax.congr (hnot hno)
    refine ⟨?_⟩
    simp (config := { maxSteps := 4000000 }) only [↓sx0, ↓sx1, ↓sx2, ↓sx3, ↓sx4, ↓sx5, ↓sx6, sx0, sx1, sx2, sx3, sx4, sx5, sx6, tf13, ev3_hold, sxo, sxc, sxp, sxq, sxr, sxs, sxl, sxm, simprocAttr, f7, e8]
    exact ⟨(st + 1, t, m, (am, cm), MF), _, by first | exact ⟨rfl, rfl, trivial⟩ | exact ⟨rfl, rfl⟩ | exact ⟨rfl, rfl, rfl⟩, HImp.tail _ _ _, ⟨by simp only []; omega, hmax2, hmis, hml, rfl⟩, by simp only []; omega⟩
  | true =>
  have hxs := hSs.1 rfl
  by_cases hlong : (x.length : Int) > silent
  · have z1 : ((x.length : Int) > silent) = True := eq_true hlong
    have hno : ¬ lots s silent x := fun h => by have := h.2; omega
    have hmax2 := hmax.congr (hnot hno)
    refine ⟨?_⟩
    simp (config := { maxSteps := 4000000 }) only [↓sx0, ↓sx1, ↓sx2, ↓sx3, ↓sx4, ↓sx5, ↓sx6, sx0, sx1, sx2, sx3, sx4, sx5, sx6, tf13, ev3_hold, sxo, sxc, sxp, sxq, sxr, sxs, sxl, sxm, simprocAttr, f7, z1, e8]
    exact ⟨(st + 1, t, m, (am, cm), MF), _, by first | exact ⟨rfl, rfl, trivial⟩ | exact ⟨rfl, rfl⟩ | exact ⟨rfl, rfl, rfl⟩, HImp.tail _ _ _, ⟨by simp only []; omega, hmax2, hmis, hml, rfl⟩, by simp only []; omega⟩
  have z1 : ((x.length : Int) > silent) = False := eq_false hlong
  have hlots : lots s silent x := ⟨hxs, by omega⟩
  have hyes := hyes hlots
  have hwo := fun w' (hp : Hp ⟨w, fun _ => False⟩ (HO.row (.slice aw x.length cw) 3 1 (ints x) :: MF) w') => hwo (.slice aw x.length cw) x (by omega) _ w' hp (row_hp List.mem_cons_self hp)
  refine ⟨?_⟩
  simp (config := { maxSteps := 4000000 }) only [↓sx0, ↓sx1, ↓sx2, ↓sx3, ↓sx4, ↓sx5, ↓sx6, sx0, sx1, sx2, sx3, sx4, sx5, sx6, tf13, ev3_hold, sxo, sxc, sxp, sxq, sxr, sxs, sxl, sxm, simprocAttr, f7, z1, dn]
  refine CallOb.pureH (fun w' hp => hwo w' hp) ?_
  intro r3 N3 hN3
  have hmu := fun (H : List HO) w' (hm : ∀ h ∈ N3, h ∈ H) (hp : Hp ⟨w, fun _ => False⟩ H w') => hmu r3 (withS s x) (by rw [okB_with]; exact hok) H w' hp (hN3.ok hm hp)
  refine ⟨?_⟩
  simp (config := { maxSteps := 4000000 }) only [↓sx0, ↓sx1, ↓sx2, ↓sx3, ↓sx4, ↓sx5, ↓sx6, sx0, sx1, sx2, sx3, sx4, sx5, sx6, tf13, ev3_hold, sxo, sxc, sxp, sxq, sxr, sxs, sxl, sxm, simprocAttr, dn]
  refine CallOb.pureH (fun w' hp => hmu _ w' (by simp +contextual) hp) ?_
  intro q N4 hMus
  obtain ⟨W1, W2, W3, rfl, hW⟩ : ∃ (W1 : Int) (W2 : Value) (W3 : Bool), q = .tuple #[I W1, W2, .bool W3] ∧ ((W3 = false ∧ mus x = none) ∨ (W3 = true ∧ mus x = some W1 ∧ call ≤ W1)) := by
    rcases hMus with ⟨h1, rfl⟩ | ⟨j', l, x', h1, rfl, _⟩
    · exact ⟨_, _, _, rfl, .inl ⟨rfl, hmn x h1⟩⟩
    · exact ⟨_, _, _, rfl, .inr ⟨rfl, hms x j' l h1, by omega⟩⟩
  clear hMus
  rcases hW with ⟨rfl, hno⟩ | ⟨rfl, hmx, hge⟩
  · refine ⟨?_⟩
    simp (config := { maxSteps := 4000000 }) only [↓sx0, ↓sx1, ↓sx2, ↓sx3, ↓sx4, ↓sx5, ↓sx6, sx0, sx1, sx2, sx3, sx4, sx5, sx6, tf13, ev3_hold, sxo, sxc, sxp, sxq, sxr, sxs, sxl, sxm, simprocAttr]
    exact ⟨0, _, [], 3, rfl, .inr (.inl ⟨⟨x, hlots, hno⟩, rfl, rfl, rfl⟩), Got.nil _⟩
  have hiM : HImp ⟨w, fun _ => False⟩ (N4 ++ (N3 ++ (HO.row (.slice aw x.length cw) 3 1 (ints x) :: MF))) MF := ((HImp.app _ _ _).trans (HImp.app _ _ _)).trans (HImp.tail _ _ _)
  have hiX : HImp ⟨w, fun _ => False⟩ (N4 ++ (N3 ++ (HO.row (.slice aw x.length cw) 3 1 (ints x) :: MF))) [HO.row (.slice aw x.length cw) 3 1 (ints x)] := HImp.pick (by simp)
  by_cases hmo : W1 > t
  · have z2 : (W1 > t) = True := eq_true hmo
    have hnew := (hmax.more hmx hmo).congr hyes
    refine ⟨?_⟩
    simp (config := { maxSteps := 4000000 }) only [↓sx0, ↓sx1, ↓sx2, ↓sx3, ↓sx4, ↓sx5, ↓sx6, sx0, sx1, sx2, sx3, sx4, sx5, sx6, tf13, ev3_hold, sxo, sxc, sxp, sxq, sxr, sxs, sxl, sxm, simprocAttr, z2, e8]
    exact ⟨(st + 1, W1, x, (aw, cw), [HO.row (.slice aw x.length cw) 3 1 (ints x)]), _, by first | exact ⟨rfl, rfl, trivial⟩ | exact ⟨rfl, rfl⟩ | exact ⟨rfl, rfl, rfl⟩, hiX, ⟨by simp only []; omega, hnew, .inr ⟨haw, rfl⟩, by simp only []; omega, rfl⟩, by simp only []; omega⟩
  have z2 : (W1 > t) = False := eq_false hmo
  by_cases heq : W1 = t
  case neg =>
    have z3 : (W1 = t) = False := eq_false heq
    have hnew := (hmax.keep hmx (by omega) (by omega) fun e => absurd e heq).congr hyes
    refine ⟨?_⟩
    simp (config := { maxSteps := 4000000 }) only [↓sx0, ↓sx1, ↓sx2, ↓sx3, ↓sx4, ↓sx5, ↓sx6, sx0, sx1, sx2, sx3, sx4, sx5, sx6, tf13, ev3_hold, sxo, sxc, sxp, sxq, sxr, sxs, sxl, sxm, simprocAttr, z2, z3, e8]
    exact ⟨(st + 1, t, m, (am, cm), MF), _, by first | exact ⟨rfl, rfl, trivial⟩ | exact ⟨rfl, rfl⟩ | exact ⟨rfl, rfl, rfl⟩, hiM, ⟨by simp only []; omega, hnew, hmis, hml, rfl⟩, by simp only []; omega⟩
  have z3 : (W1 = t) = True := eq_true heq
  have hso := fun w' (hp : Hp ⟨w, fun _ => False⟩ (N4 ++ (N3 ++ (HO.row (.slice aw x.length cw) 3 1 (ints x) :: MF))) w') => sooner_fn w' (.slice aw x.length cw) (.slice am m.length cm) x m (row_hp (E := 3) (by simp) hp) (hmis.sl (by simp +contextual) hp) (by omega) (by omega)
  cases hbf : befB x m with
  | true =>
    rw [hbf] at hso
    have hnew := (hmax.before (hmx.trans (by rw [heq])) hbf).congr hyes
    refine ⟨?_⟩
    simp (config := { maxSteps := 4000000 }) only [↓sx0, ↓sx1, ↓sx2, ↓sx3, ↓sx4, ↓sx5, ↓sx6, sx0, sx1, sx2, sx3, sx4, sx5, sx6, tf13, ev3_hold, sxo, sxc, sxp, sxq, sxr, sxs, sxl, sxm, simprocAttr, z2, z3, dn]
    refine CallOb.pureH (fun w' hp => hso w' hp) ?_
    rintro q N6 rfl
    refine ⟨?_⟩
    simp (config := { maxSteps := 4000000 }) only [↓sx0, ↓sx1, ↓sx2, ↓sx3, ↓sx4, ↓sx5, ↓sx6, sx0, sx1, sx2, sx3, sx4, sx5, sx6, tf13, ev3_hold, sxo, sxc, sxp, sxq, sxr, sxs, sxl, sxm, simprocAttr, e8]
    exact ⟨(st + 1, W1, x, (aw, cw), [HO.row (.slice aw x.length cw) 3 1 (ints x)]), _, by first | exact ⟨rfl, rfl, trivial⟩ | exact ⟨rfl, rfl⟩ | exact ⟨rfl, rfl, rfl⟩, (HImp.app _ _ _).trans hiX, ⟨by simp only []; omega, by simp only []; rw [heq]; exact hnew, .inr ⟨haw, rfl⟩, by simp only []; omega, rfl⟩, by simp only []; omega⟩
  | false =>
    rw [hbf] at hso
    have hnew := (hmax.keep hmx (by omega) (by omega) fun e => hbf).congr hyes
    refine ⟨?_⟩
    simp (config := { maxSteps := 4000000 }) only [↓sx0, ↓sx1, ↓sx2, ↓sx3, ↓sx4, ↓sx5, ↓sx6, sx0, sx1, sx2, sx3, sx4, sx5, sx6, tf13, ev3_hold, sxo, sxc, sxp, sxq, sxr, sxs, sxl, sxm, simprocAttr, z2, z3, dn]
    refine CallOb.pureH (fun w' hp => hso w' hp) ?_
    rintro q N6 rfl
    refine ⟨?_⟩
    simp (config := { maxSteps := 4000000 }) only [↓sx0, ↓sx1, ↓sx2, ↓sx3, ↓sx4, ↓sx5, ↓sx6, sx0, sx1, sx2, sx3, sx4, sx5, sx6, tf13, ev3_hold, sxo, sxc, sxp, sxq, sxr, sxs, sxl, sxm, simprocAttr, e8]
    exact ⟨(st + 1, t, m, (am, cm), MF), _, by first | exact ⟨rfl, rfl, trivial⟩ | exact ⟨rfl, rfl⟩ | exact ⟨rfl, rfl, rfl⟩, (HImp.app _ _ _).trans hiM, ⟨by simp only []; omega, hnew, hmis, hml, rfl⟩, by simp only []; omega⟩
end Go.Proofs.Ytgpglmcbopfddaa

