/- Parts of a proof: the symbolic walk and what it shows of single functions. -/
import Derived.Test.YtgpglmcbopfddaaW1
import Derived.Test.YtgpglmcbopfddaaK4
import Derived.Test.YtgpglmcbopfddaaK5
set_option linter.all false
namespace Go.Proofs.Ytgpglmcbopfddaa
open Go.RowKit Go.SX
set_option maxRecDepth 10000
set_option maxHeartbeats 0
set_option linter.unusedSimpArgs false
set_option linter.unusedVariables false
theorem u64w {i : Nat} (h : i ≤ 1000) : IntKind.u64.wrap (i : Int) = i := by
  rw [IntKind.wrap_u64]
  omega
def an1 (p : Hm) (z : Int) : Hm := (⟨p.1.skills, p.1.low, p.1.high, p.1.log, z⟩, p.2)
theorem an1_hdc (p : Hm) (z : Int) : hdc (an1 p z) = (hdc p).set 4 (I z) := rfl
theorem an1_an1 (p : Hm) (z z' : Int) : hdc (an1 p z') = (hdc (an1 p z)).set 4 (I z') := rfl
theorem an1_with {y : List Int} {k : Nat} {p : Hm} (h0 : p.1.ans = 0) : (withH y k p.1, p.2) = an1 p (if y.contains (k : Int) then 2 else 1) := by
  unfold withH an1
  rw [if_pos h0]
theorem mixY_facts (s : Stn) (ps : List Hm) (y : List Int) (n : Nat) (hn : ps.length = n) : ∃ MX : Nat → List Hm, MX 0 = ps ∧ MX n = psW y ps ∧ (∀ i, i < n → (MX i).length = n) ∧
    (∀ i p, ps[i]? = some p → (MX i)[i]? = some p) ∧ (∀ i p, ps[i]? = some p → p.1.ans = 0 → ∀ z, (MX i).set i (an1 p (if y.contains (i : Int) then 2 else 1)) = MX (i + 1) ∧ ((MX i).set i (an1 p z)).set i (an1 p (if y.contains (i : Int) then 2 else 1)) = MX (i + 1)) ∧ (∀ i p, ps[i]? = some p → ¬ p.1.ans = 0 → MX (i + 1) = MX i) := by
  have hlen := psW_len y ps
  subst hn
  have key : ∀ i p, ps[i]? = some p → p.1.ans = 0 → ((psW y ps).take i ++ ps.drop i).set i (an1 p (if y.contains (i : Int) then 2 else 1)) = (psW y ps).take (i + 1) ++ ps.drop (i + 1) := fun i p hp h0 => by
    rw [← an1_with h0]
    exact mix_set (by rw [psW_get, hp]; rfl) hlen
  refine ⟨fun i => (psW y ps).take i ++ ps.drop i, by simp, ?_, fun i hi => ?_, fun i p hp => ?_, fun i p hp h0 z => ⟨key i p hp h0, ?_⟩, fun i p hp h0 => ?_⟩
  · simp only []
    rw [List.take_of_length_le (by omega), List.drop_of_length_le (Nat.le_refl _), List.append_nil]
  · simp only []
    rw [List.length_append, List.length_take, List.length_drop]
    omega
  · simp only []
    rw [mix_get hlen (List.getElem?_eq_some_iff.1 hp).1, hp]
  · simp only []
    rw [List.set_set]
    exact key i p hp h0
  · simp only []
    refine mix_same (a := p) ?_ hp
    rw [psW_get, hp]
    simp only [Option.map_some, Option.some.injEq]
    unfold withH
    rw [if_neg h0]
theorem without_fn (w : World) (v : Value) (s : Stn) (hs : StOk w v s) (hsm : s.small) (vm : Value) (y : List Int) (hvm : Sl w vm 1 (ints y)) (hyl : y.length ≤ 1000) :
    SX.Fn Try.prog 18 [v, vm] w (fun _ => False) fun r N => CpN N r (withS s y) := by
  have dn : ∀ (g : Nat) (xs : List Value), det0 g xs = none := fun _ _ => rfl
  have hcp := fun (H : List HO) w' (hp : Hp ⟨w, fun _ => False⟩ H w') => copy_fn w' v s (hs.hp hp) hsm
  have hha := fun (x : Int) (H : List HO) w' (hp : Hp ⟨w, fun _ => False⟩ H w') => has_fn w' vm y (Sl.hp (w0 := ⟨w, fun _ => False⟩) hvm (fun _ _ => id) hp) (by omega) x
  obtain ⟨hv0, ps0, rfl, hps0, hsl0, hlg0⟩ := hs
  have hsm1 := hsm.1
  unfold CpN at hcp ⊢
  rw [withS_len]
  refine walk [] [] (det0_ok _ _) Try.func18 rfl Try.ntmps18 res18 (by kernel_rfl) no_facts ?_
  simp (config := { maxSteps := 4000000 }) only [↓sx0, ↓sx1, ↓sx2, ↓sx3, ↓sx4, ↓sx5, ↓sx6, sx0, sx1, sx2, sx3, sx4, sx5, sx6, tf18, ev3_hold, sxo, sxc, sxp, sxq, sxr, sxs, sxl, sxm, simprocAttr, dn]
  refine CallOb.pureH (fun w' hp => hcp _ w' hp) ?_
  rintro q N ⟨ao, co, ps, rfl, hps, hnil, DF, rfl, hdf⟩
  have hpl : s.hands.length = ps.length := by rw [← hps, List.length_map]
  obtain ⟨MX, hM0, hMn, hMl, hMg, hM1, hM2⟩ := mixY_facts s ps y s.hands.length hpl.symm
  refine ⟨?_⟩
  simp (config := { maxSteps := 4000000 }) only [↓sx0, ↓sx1, ↓sx2, ↓sx3, ↓sx4, ↓sx5, ↓sx6, sx0, sx1, sx2, sx3, sx4, sx5, sx6, tf18, ev3_hold, sxo, sxc, sxp, sxq, sxr, sxs, sxl, sxm, simprocAttr]
  refine loop_constH (HO.row (.slice ao s.hands.length co) 44 5 (cat hdc (MX 0)) :: DF) (by rw [hM0]; exact HImp.refl _ _) [(6, 6), (9, 35)] (fun i : Nat => [(6, I i)]) (fun i H1 => i ≤ s.hands.length ∧ H1 = HO.row (.slice ao s.hands.length co) 44 5 (cat hdc (MX i)) :: DF) (fun i => s.hands.length - i) 0 ?_ ⟨Nat.zero_le _, rfl⟩ ?_
  · simp (config := { maxSteps := 4000000 }) only [↓sx0, ↓sx1, ↓sx2, ↓sx3, ↓sx4, ↓sx5, ↓sx6, sx0, sx1, sx2, sx3, sx4, sx5, sx6, tf18, ev3_hold, sxo, sxc, sxp, sxq, sxr, sxs, sxl, sxm, simprocAttr]
    try simp
  rintro i H1 g1 ⟨hi, rfl⟩
  by_cases hin : i = s.hands.length
  · subst hin
    have e7 : ((s.hands.length : Int) < (s.hands.length : Int)) = False := eq_false (by omega)
    rw [hMn]
    refine ⟨?_⟩
    simp (config := { maxSteps := 4000000 }) only [↓sx0, ↓sx1, ↓sx2, ↓sx3, ↓sx4, ↓sx5, ↓sx6, sx0, sx1, sx2, sx3, sx4, sx5, sx6, tf18, ev3_hold, sxo, sxc, sxp, sxq, sxr, sxs, sxl, sxm, simprocAttr, e7]
    refine ⟨ao, co, psW y ps, rfl, psW_map hps, fun h => by rw [hnil h]; rfl, DF, rfl, fun p hp => ?_⟩
    · obtain ⟨j, hj⟩ := List.getElem?_of_mem hp
      rw [psW_get] at hj
      cases hq : ps[j]? with
      | none => rw [hq] at hj; cases hj
      | some p0 =>
        rw [hq] at hj
        cases hj
        rw [lgv_with, (withH_log y j p0.1).1]
        exact hdf p0 (List.mem_of_getElem? hq)
  have e7 : ((i : Int) < (s.hands.length : Int)) = True := eq_true (by omega)
  have e8 : wr (i + 1) = ((i + 1 : Nat) : Int) := (wrap_id (by omega)).trans (by omega)
  obtain ⟨p, hp⟩ : ∃ p, ps[i]? = some p := ⟨_, List.getElem?_eq_getElem (by omega)⟩
  have hg := hMg i p hp
  have hML := hMl i (by omega)
  cases ao with
  | none =>
    have hz := hnil rfl
    rw [hz] at hp
    simp at hp
  | some adh =>
  have hr : ∀ l : List Hm, l.length = s.hands.length → Rdv ⟨w, fun _ => False⟩ (HO.row (.slice (some adh) s.hands.length co) 44 5 (cat hdc l) :: DF) (.slice (some adh) s.hands.length co) 5 (cat hdc l) := fun l hl => row_rdv (E := 44) List.mem_cons_self ⟨_, _, _, rfl, by rw [cat_len hdc_len, hl], fun h => by cases h⟩
  by_cases h0 : p.1.ans = 0
  · have z0 : (p.1.ans = 0) = True := eq_true h0
    have h1 := fun z => (hM1 i p hp h0 z).1
    have h2 := fun z => (hM1 i p hp h0 z).2
    have hsl1 : ((MX i).set i (an1 p 1)).length = s.hands.length := by rw [List.length_set]; exact hML
    have hsg1 : ((MX i).set i (an1 p 1))[i]? = some (an1 p 1) := List.getElem?_set_self (by omega)
    by_cases hin2 : (i : Int) ∈ y
    · have hc : y.contains (i : Int) = true := List.contains_iff_mem.2 hin2
      have hha2 := hha (i : Int)
      rw [decide_eq_true hin2] at hha2
      simp only [hc, if_true] at h1 h2
      refine ⟨?_⟩
      simp (config := { maxSteps := 4000000 }) only [↓sx0, ↓sx1, ↓sx2, ↓sx3, ↓sx4, ↓sx5, ↓sx6, sx0, sx1, sx2, sx3, sx4, sx5, sx6, tf18, ev3_hold, sxo, sxc, sxp, sxq, sxr, sxs, sxl, sxm, simprocAttr, e7]
      refine amid (at_f (hr _ hML) hdc_len hg (o := 4) (x := I p.1.ans) rfl fun ad => ?_)
      simp (config := { maxSteps := 4000000 }) only [↓sx0, ↓sx1, ↓sx2, ↓sx3, ↓sx4, ↓sx5, ↓sx6, sx0, sx1, sx2, sx3, sx4, sx5, sx6, tf18, ev3_hold, sxo, sxc, sxp, sxq, sxr, sxs, sxl, sxm, simprocAttr, z0, e7]
      refine ⟨by omega, adh, rfl, ?_⟩
      refine wr_f1 (A := []) (an1 p 1) rfl hdc_len hML hg (an1_hdc p 1) (by omega) ?_
      simp (config := { maxSteps := 4000000 }) only [↓sx0, ↓sx1, ↓sx2, ↓sx3, ↓sx4, ↓sx5, ↓sx6, sx0, sx1, sx2, sx3, sx4, sx5, sx6, tf18, ev3_hold, sxo, sxc, sxp, sxq, sxr, sxs, sxl, sxm, simprocAttr, dn]
      refine CallOb.pureH (fun w' hp => hha2 _ w' hp) ?_
      rintro q N2 rfl
      refine ⟨?_⟩
      simp (config := { maxSteps := 4000000 }) only [↓sx0, ↓sx1, ↓sx2, ↓sx3, ↓sx4, ↓sx5, ↓sx6, sx0, sx1, sx2, sx3, sx4, sx5, sx6, tf18, ev3_hold, sxo, sxc, sxp, sxq, sxr, sxs, sxl, sxm, simprocAttr, e7]
      refine ⟨by omega, adh, rfl, ?_⟩
      refine wr_f1 (A := N2) (an1 p 2) rfl hdc_len hsl1 hsg1 (an1_an1 p 1 2) (by omega) ?_
      rw [h2 1]
      simp (config := { maxSteps := 4000000 }) only [↓sx0, ↓sx1, ↓sx2, ↓sx3, ↓sx4, ↓sx5, ↓sx6, sx0, sx1, sx2, sx3, sx4, sx5, sx6, tf18, ev3_hold, sxo, sxc, sxp, sxq, sxr, sxs, sxl, sxm, simprocAttr, e8]
      exact ⟨i + 1, _, rfl, HImp.app _ _ _, ⟨by omega, rfl⟩, by omega⟩
    · have hc : y.contains (i : Int) = false := by rw [Bool.eq_false_iff]; exact fun h => hin2 (List.contains_iff_mem.1 h)
      have hha2 := hha (i : Int)
      rw [decide_eq_false hin2] at hha2
      simp only [hc, Bool.false_eq_true, if_false] at h1 h2
      refine ⟨?_⟩
      simp (config := { maxSteps := 4000000 }) only [↓sx0, ↓sx1, ↓sx2, ↓sx3, ↓sx4, ↓sx5, ↓sx6, sx0, sx1, sx2, sx3, sx4, sx5, sx6, tf18, ev3_hold, sxo, sxc, sxp, sxq, sxr, sxs, sxl, sxm, simprocAttr, e7]
      refine amid (at_f (hr _ hML) hdc_len hg (o := 4) (x := I p.1.ans) rfl fun ad => ?_)
      simp (config := { maxSteps := 4000000 }) only [↓sx0, ↓sx1, ↓sx2, ↓sx3, ↓sx4, ↓sx5, ↓sx6, sx0, sx1, sx2, sx3, sx4, sx5, sx6, tf18, ev3_hold, sxo, sxc, sxp, sxq, sxr, sxs, sxl, sxm, simprocAttr, z0, e7]
      refine ⟨by omega, adh, rfl, ?_⟩
      refine wr_f1 (A := []) (an1 p 1) rfl hdc_len hML hg (an1_hdc p 1) (by omega) ?_
      rw [h1 0]
      simp (config := { maxSteps := 4000000 }) only [↓sx0, ↓sx1, ↓sx2, ↓sx3, ↓sx4, ↓sx5, ↓sx6, sx0, sx1, sx2, sx3, sx4, sx5, sx6, tf18, ev3_hold, sxo, sxc, sxp, sxq, sxr, sxs, sxl, sxm, simprocAttr, dn]
      refine CallOb.pureH (fun w' hp => hha2 _ w' hp) ?_
      rintro q N2 rfl
      refine ⟨?_⟩
      simp (config := { maxSteps := 4000000 }) only [↓sx0, ↓sx1, ↓sx2, ↓sx3, ↓sx4, ↓sx5, ↓sx6, sx0, sx1, sx2, sx3, sx4, sx5, sx6, tf18, ev3_hold, sxo, sxc, sxp, sxq, sxr, sxs, sxl, sxm, simprocAttr, e8]
      exact ⟨i + 1, _, rfl, HImp.app _ _ _, ⟨by omega, rfl⟩, by omega⟩
  · have z0 : (p.1.ans = 0) = False := eq_false h0
    have h1 := hM2 i p hp h0
    refine ⟨?_⟩
    simp (config := { maxSteps := 4000000 }) only [↓sx0, ↓sx1, ↓sx2, ↓sx3, ↓sx4, ↓sx5, ↓sx6, sx0, sx1, sx2, sx3, sx4, sx5, sx6, tf18, ev3_hold, sxo, sxc, sxp, sxq, sxr, sxs, sxl, sxm, simprocAttr, e7]
    refine amid (at_f (hr _ hML) hdc_len hg (o := 4) (x := I p.1.ans) rfl fun ad => ?_)
    simp (config := { maxSteps := 4000000 }) only [↓sx0, ↓sx1, ↓sx2, ↓sx3, ↓sx4, ↓sx5, ↓sx6, sx0, sx1, sx2, sx3, sx4, sx5, sx6, tf18, ev3_hold, sxo, sxc, sxp, sxq, sxr, sxs, sxl, sxm, simprocAttr, z0, e8]
    exact ⟨i + 1, _, rfl, HImp.refl _ _, ⟨by omega, by rw [h1]⟩, by omega⟩
end Go.Proofs.Ytgpglmcbopfddaa

