/- A part of a proof: the symbolic walk and what it shows of single functions. -/
import Derived.Test.YtcnjhgnlcnmagaaDoorScYb
import Derived.Test.YtcnjhgnlcnmagaaDoorC5
set_option linter.all false
namespace Go.Proofs.YtcnjhgnlcnmagaaDoor
open Go.RowKit Go.SX
set_option maxRecDepth 20000
set_option maxHeartbeats 8000000
set_option linter.unusedSimpArgs false
set_option linter.unusedVariables false

/-! ### Veer, the program -/

theorem swings_fn (w : World) (br bf : Nat) (vr vf : Value) (R : List Int) (F : List Bool) (hcr : w.cell? ⟨br, 0, none⟩ = some vr) (hcf : w.cell? ⟨bf, 0, none⟩ = some vf) (hR : Sl w vr 1 (ints R)) (hF : Sl w vf 1 (bools F)) (hl : F.length = R.length) (hb : R.length < 1000) (len : Int) :
    SX.Fn Tryd.prog 92 [I len, .pointer (some ⟨br, 0, none⟩), .pointer (some ⟨bf, 0, none⟩)] w (fun _ => False) fun r N => ∃ b, r = .bool b ∧ (b = true ↔ ∀ y, y < R.length → lv R y ≤ len → F.getD y false = true) := by
  obtain ⟨ar, nr, cr, rfl⟩ := hR.shape
  obtain ⟨af, nf, cf, rfl⟩ := hF.shape
  have hnr := hR.le i1_len (by omega)
  have hnf := hF.le b1_len (by omega)
  subst hnr hnf
  have hrR := hR.rd0
  have hrF := hF.rd0
  refine walk [] [] (det0_ok _ _) Tryd.func92 rfl Tryd.ntmps92 res92 (by kernel_rfl) no_facts ?_
  simp (config := { maxSteps := 4000000 }) only [↓sx0, ↓sx1, ↓sx2, ↓sx3, ↓sx4, ↓sx5, ↓sx6, sx0, sx1, sx2, sx3, sx4, sx5, sx6, tf92, ev3_hold, sxo, sxc, sxp, sxq, sxr, sxs, sxl, sxm, Int.reduceBEq, Int.reduceBNe, Int.reduceLT, Int.reduceLE, Int.reduceEq, Int.reduceGT, Int.reduceGE, Int.reduceToNat, ↓reduceIte, List.reduceReplicate, Nat.reduceAdd, Nat.reduceSub, Nat.reduceMul, Nat.reduceLT, Nat.reduceLeDiff, Nat.reduceBEq, Nat.reduceEqDiff]
  refine ld_old hcr id ?_
  simp (config := { maxSteps := 4000000 }) only [↓sx0, ↓sx1, ↓sx2, ↓sx3, ↓sx4, ↓sx5, ↓sx6, sx0, sx1, sx2, sx3, sx4, sx5, sx6, tf92, ev3_hold, sxo, sxc, sxp, sxq, sxr, sxs, sxl, sxm, Int.reduceBEq, Int.reduceBNe, Int.reduceLT, Int.reduceLE, Int.reduceEq, Int.reduceGT, Int.reduceGE, Int.reduceToNat, ↓reduceIte, List.reduceReplicate, Nat.reduceAdd, Nat.reduceSub, Nat.reduceMul, Nat.reduceLT, Nat.reduceLeDiff, Nat.reduceBEq, Nat.reduceEqDiff]
  refine loop_constH [] (HImp.nil _ _) [(4, 6), (9, 24)] (fun i : Nat => [(9, I i)]) (fun i H1 => i ≤ R.length ∧ ∀ y, y < i → lv R y ≤ len → F.getD y false = true) (fun i => R.length - i) 0 ?_ ⟨Nat.zero_le _, fun y h => by omega⟩ ?_
  · simp (config := { maxSteps := 4000000 }) only [↓sx0, ↓sx1, ↓sx2, ↓sx3, ↓sx4, ↓sx5, ↓sx6, sx0, sx1, sx2, sx3, sx4, sx5, sx6, tf92, ev3_hold, sxo, sxc, sxp, sxq, sxr, sxs, sxl, sxm, Int.reduceBEq, Int.reduceBNe, Int.reduceLT, Int.reduceLE, Int.reduceEq, Int.reduceGT, Int.reduceGE, Int.reduceToNat, ↓reduceIte, List.reduceReplicate, Nat.reduceAdd, Nat.reduceSub, Nat.reduceMul, Nat.reduceLT, Nat.reduceLeDiff, Nat.reduceBEq, Nat.reduceEqDiff]
    simp
  rintro i H1 g1 ⟨hi, hall⟩
  by_cases hin : i = R.length
  · have e7 : ((i : Int) < (R.length : Int)) = False := eq_false (by omega)
    refine ⟨?_⟩
    simp (config := { maxSteps := 4000000 }) only [↓sx0, ↓sx1, ↓sx2, ↓sx3, ↓sx4, ↓sx5, ↓sx6, sx0, sx1, sx2, sx3, sx4, sx5, sx6, tf92, ev3_hold, sxo, sxc, sxp, sxq, sxr, sxs, sxl, sxm, Int.reduceBEq, Int.reduceBNe, Int.reduceLT, Int.reduceLE, Int.reduceEq, Int.reduceGT, Int.reduceGE, Int.reduceToNat, ↓reduceIte, List.reduceReplicate, Nat.reduceAdd, Nat.reduceSub, Nat.reduceMul, Nat.reduceLT, Nat.reduceLeDiff, Nat.reduceBEq, Nat.reduceEqDiff, e7]
    refine ⟨true, rfl, ?_⟩
    simp only [true_iff]
    rw [← hin]
    exact hall
  have e7 : ((i : Int) < (R.length : Int)) = True := eq_true (by omega)
  have e8 : IntKind.i64.wrap ((i : Int) + 1) = ((i + 1 : Nat) : Int) := (wrap_id (by omega)).trans (by omega)
  have hu : R[i]? = some (lv R i) := getD_at (by omega) 0
  have huF : F[i]? = some (F.getD i false) := getD_at (by omega) false
  have hnext : (lv R i ≤ len → F.getD i false = true) → ∀ y, y < i + 1 → lv R y ≤ len → F.getD y false = true := fun h y hy => by
    by_cases hyi : y < i
    · exact hall y hyi
    · rw [show y = i by omega]
      exact h
  by_cases k1 : lv R i ≤ len
  case neg =>
    have p1 : (lv R i ≤ len) = False := eq_false k1
    refine ⟨?_⟩
    simp (config := { maxSteps := 4000000 }) only [↓sx0, ↓sx1, ↓sx2, ↓sx3, ↓sx4, ↓sx5, ↓sx6, sx0, sx1, sx2, sx3, sx4, sx5, sx6, tf92, ev3_hold, sxo, sxc, sxp, sxq, sxr, sxs, sxl, sxm, Int.reduceBEq, Int.reduceBNe, Int.reduceLT, Int.reduceLE, Int.reduceEq, Int.reduceGT, Int.reduceGE, Int.reduceToNat, ↓reduceIte, List.reduceReplicate, Nat.reduceAdd, Nat.reduceSub, Nat.reduceMul, Nat.reduceLT, Nat.reduceLeDiff, Nat.reduceBEq, Nat.reduceEqDiff, e7]
    refine amid (at_1 (hrR _) i1_len hu rfl fun ad1 => ?_)
    simp (config := { maxSteps := 4000000 }) only [↓sx0, ↓sx1, ↓sx2, ↓sx3, ↓sx4, ↓sx5, ↓sx6, sx0, sx1, sx2, sx3, sx4, sx5, sx6, tf92, ev3_hold, sxo, sxc, sxp, sxq, sxr, sxs, sxl, sxm, Int.reduceBEq, Int.reduceBNe, Int.reduceLT, Int.reduceLE, Int.reduceEq, Int.reduceGT, Int.reduceGE, Int.reduceToNat, ↓reduceIte, List.reduceReplicate, Nat.reduceAdd, Nat.reduceSub, Nat.reduceMul, Nat.reduceLT, Nat.reduceLeDiff, Nat.reduceBEq, Nat.reduceEqDiff, p1, e8]
    exact ⟨i + 1, _, rfl, HImp.nil _ _, ⟨by omega, hnext (fun h => absurd h k1)⟩, by omega⟩
  have p1 : (lv R i ≤ len) = True := eq_true k1
  have hq : ∃ q, F.getD i false = q := ⟨_, rfl⟩
  obtain ⟨q, hq⟩ := hq
  rw [hq] at huF
  refine ⟨?_⟩
  simp (config := { maxSteps := 4000000 }) only [↓sx0, ↓sx1, ↓sx2, ↓sx3, ↓sx4, ↓sx5, ↓sx6, sx0, sx1, sx2, sx3, sx4, sx5, sx6, tf92, ev3_hold, sxo, sxc, sxp, sxq, sxr, sxs, sxl, sxm, Int.reduceBEq, Int.reduceBNe, Int.reduceLT, Int.reduceLE, Int.reduceEq, Int.reduceGT, Int.reduceGE, Int.reduceToNat, ↓reduceIte, List.reduceReplicate, Nat.reduceAdd, Nat.reduceSub, Nat.reduceMul, Nat.reduceLT, Nat.reduceLeDiff, Nat.reduceBEq, Nat.reduceEqDiff, e7]
  refine amid (at_1 (hrR _) i1_len hu rfl fun ad1 => ?_)
  simp (config := { maxSteps := 4000000 }) only [↓sx0, ↓sx1, ↓sx2, ↓sx3, ↓sx4, ↓sx5, ↓sx6, sx0, sx1, sx2, sx3, sx4, sx5, sx6, tf92, ev3_hold, sxo, sxc, sxp, sxq, sxr, sxs, sxl, sxm, Int.reduceBEq, Int.reduceBNe, Int.reduceLT, Int.reduceLE, Int.reduceEq, Int.reduceGT, Int.reduceGE, Int.reduceToNat, ↓reduceIte, List.reduceReplicate, Nat.reduceAdd, Nat.reduceSub, Nat.reduceMul, Nat.reduceLT, Nat.reduceLeDiff, Nat.reduceBEq, Nat.reduceEqDiff, p1]
  refine ld_old hcf id ?_
  simp (config := { maxSteps := 4000000 }) only [↓sx0, ↓sx1, ↓sx2, ↓sx3, ↓sx4, ↓sx5, ↓sx6, sx0, sx1, sx2, sx3, sx4, sx5, sx6, tf92, ev3_hold, sxo, sxc, sxp, sxq, sxr, sxs, sxl, sxm, Int.reduceBEq, Int.reduceBNe, Int.reduceLT, Int.reduceLE, Int.reduceEq, Int.reduceGT, Int.reduceGE, Int.reduceToNat, ↓reduceIte, List.reduceReplicate, Nat.reduceAdd, Nat.reduceSub, Nat.reduceMul, Nat.reduceLT, Nat.reduceLeDiff, Nat.reduceBEq, Nat.reduceEqDiff]
  refine at_1 (hrF _) b1_len huF rfl fun ad2 => ?_
  cases q with
  | true =>
    simp (config := { maxSteps := 4000000 }) only [↓sx0, ↓sx1, ↓sx2, ↓sx3, ↓sx4, ↓sx5, ↓sx6, sx0, sx1, sx2, sx3, sx4, sx5, sx6, tf92, ev3_hold, sxo, sxc, sxp, sxq, sxr, sxs, sxl, sxm, Int.reduceBEq, Int.reduceBNe, Int.reduceLT, Int.reduceLE, Int.reduceEq, Int.reduceGT, Int.reduceGE, Int.reduceToNat, ↓reduceIte, List.reduceReplicate, Nat.reduceAdd, Nat.reduceSub, Nat.reduceMul, Nat.reduceLT, Nat.reduceLeDiff, Nat.reduceBEq, Nat.reduceEqDiff, e8]
    exact ⟨i + 1, _, rfl, HImp.nil _ _, ⟨by omega, hnext (fun _ => hq)⟩, by omega⟩
  | false =>
    simp (config := { maxSteps := 4000000 }) only [↓sx0, ↓sx1, ↓sx2, ↓sx3, ↓sx4, ↓sx5, ↓sx6, sx0, sx1, sx2, sx3, sx4, sx5, sx6, tf92, ev3_hold, sxo, sxc, sxp, sxq, sxr, sxs, sxl, sxm, Int.reduceBEq, Int.reduceBNe, Int.reduceLT, Int.reduceLE, Int.reduceEq, Int.reduceGT, Int.reduceGE, Int.reduceToNat, ↓reduceIte, List.reduceReplicate, Nat.reduceAdd, Nat.reduceSub, Nat.reduceMul, Nat.reduceLT, Nat.reduceLeDiff, Nat.reduceBEq, Nat.reduceEqDiff]
    refine ⟨false, rfl, ?_⟩
    simp only [Bool.false_eq_true, false_iff]
    intro h
    rw [h i (by omega) k1] at hq
    cases hq

theorem waterV_ok {c : Cht} (hok : c.ok) {K T : Nat} (hK : K < c.depth.length) (hT : T < c.tide.length) : waterV c K T = .tuple #[vS (c.over K T (c.tlo T), c.over K T (c.thi T)), I 0] := by
  unfold waterV
  rw [if_pos, Int.toNat_natCast, Int.toNat_natCast]
  refine openE_of hok ?_ ?_ (by simp)
  · simp only [List.mem_singleton]
    rintro x rfl
    unfold notCell
    rw [Bool.not_eq_false', inB_iff]
    omega
  · simp only [List.mem_singleton]
    rintro x rfl
    unfold notTick
    rw [Bool.not_eq_false', inB_iff]
    omega

def pl53_11 : Plan := (ones [0, 1, 2, 4] (.ld 5 (ones [6] (.pre 3 (.pre 7 (.pre 8 (ones [9, 3, 8] (.kl 10 (ones [7] (.kl 11 .fin))))))))))
def pl53 : List (Nat × Plan) := [(11, pl53_11)]
theorem pl53_lk : (lkO 11 pl53 = some pl53_11) ∧ (lkO 17 pl53 = none) := ⟨rfl, rfl⟩

theorem veer_bad (w : World) (hw : Ways w) (v : Value) (c : Cht) (hc : ChOk w v c) (hsm : c.small) (A : Anc) (g t : Int) (he : veerE c A g t ≠ 0) :
    SX.Fn Tryd.prog 53 [v, anv A, I g, I t] w (fun _ => False) fun r N => r = .tuple #[.slice none 0 0, I (veerE c A g t)] := by
  have hc0 := hc
  have hD := detV_ok (X := fun _ => False) hw hc (fun _ _ => id)
  have hck := (detV_check (v := v) hsm).1
  have hwt := fun (H : List HO) w' (hp : Hp ⟨w, fun _ => False⟩ H w') => water1_fn w' v c (hc0.hp hp) hsm A.cell t
  have hfl := fun (H : List HO) w' (hp : Hp ⟨w, fun _ => False⟩ H w') => floats1_fn w' v c (hc0.hp hp) hsm g A.cell t
  obtain ⟨sD, sT, sS, rfl, hsD, hsT, hsS⟩ := hc
  obtain ⟨aD, nD, cD, rfl⟩ := hsD.shape
  have hnD := hsD.le i1_len (by omega)
  have dn : (∀ xs, detV (.agg #[I c.wide, I c.high, .slice aD nD cD, sT, sS]) c 32 xs = none) ∧ (∀ xs, detV (.agg #[I c.wide, I c.high, .slice aD nD cD, sT, sS]) c 34 xs = none) := ⟨fun _ => rfl, fun _ => rfl⟩
  unfold anv
  unfold veerE at he ⊢
  cases hok : c.okB with
  | false =>
    rw [hok] at hck
    refine walk [17, 18] pl53 hD Tryd.func53 rfl Tryd.ntmps53 res53 (by kernel_rfl) no_facts ?_
    simp (config := { maxSteps := 4000000 }) only [↓sx0, ↓sx1, ↓sx2, ↓sx3, ↓sx4, ↓sx5, ↓sx6, sx0, sx1, sx2, sx3, sx4, sx5, sx6, tf53, ev3_hold, sxo, sxc, sxp, sxq, sxr, sxs, sxl, sxm, Int.reduceBEq, Int.reduceBNe, Int.reduceLT, Int.reduceLE, Int.reduceEq, Int.reduceGT, Int.reduceGE, Int.reduceToNat, ↓reduceIte, List.reduceReplicate, Nat.reduceAdd, Nat.reduceSub, Nat.reduceMul, Nat.reduceLT, Nat.reduceLeDiff, Nat.reduceBEq, Nat.reduceEqDiff, hck]
  | true =>
  rw [hok] at he
  rw [hok, if_pos rfl] at hck
  have hok' := (okB_iff c).1 hok
  have h144 : nD ≤ 200 := by have := hsm.1; omega
  have e5 : IntKind.i64.wrap ((nD : Int) - 1) = (c.depth.length : Int) - 1 := (wrap_id (by omega)).trans (by omega)
  have hci : inB A.cell 0 ((c.depth.length : Int) - 1) = !notCell c A.cell := by unfold notCell; simp
  unfold anB at he ⊢
  cases h1 : notCell c A.cell with
  | true =>
    rw [h1] at hci
    refine walk [17, 18] pl53 hD Tryd.func53 rfl Tryd.ntmps53 res53 (by kernel_rfl) no_facts ?_
    simp (config := { maxSteps := 4000000 }) only [↓sx0, ↓sx1, ↓sx2, ↓sx3, ↓sx4, ↓sx5, ↓sx6, sx0, sx1, sx2, sx3, sx4, sx5, sx6, tf53, ev3_hold, sxo, sxc, sxp, sxq, sxr, sxs, sxl, sxm, Int.reduceBEq, Int.reduceBNe, Int.reduceLT, Int.reduceLE, Int.reduceEq, Int.reduceGT, Int.reduceGE, Int.reduceToNat, ↓reduceIte, List.reduceReplicate, Nat.reduceAdd, Nat.reduceSub, Nat.reduceMul, Nat.reduceLT, Nat.reduceLeDiff, Nat.reduceBEq, Nat.reduceEqDiff, hck, detV_eq, e5, hci]
  | false =>
  rw [h1] at hci he
  cases h2 : inB A.cable 0 20000 with
  | false =>
    refine walk [17, 18] pl53 hD Tryd.func53 rfl Tryd.ntmps53 res53 (by kernel_rfl) no_facts ?_
    simp (config := { maxSteps := 4000000 }) only [↓sx0, ↓sx1, ↓sx2, ↓sx3, ↓sx4, ↓sx5, ↓sx6, sx0, sx1, sx2, sx3, sx4, sx5, sx6, tf53, ev3_hold, sxo, sxc, sxp, sxq, sxr, sxs, sxl, sxm, Int.reduceBEq, Int.reduceBNe, Int.reduceLT, Int.reduceLE, Int.reduceEq, Int.reduceGT, Int.reduceGE, Int.reduceToNat, ↓reduceIte, List.reduceReplicate, Nat.reduceAdd, Nat.reduceSub, Nat.reduceMul, Nat.reduceLT, Nat.reduceLeDiff, Nat.reduceBEq, Nat.reduceEqDiff, hck, detV_eq, e5, hci, h2]
  | true =>
  cases h3 : inB A.scope 1 10 with
  | false =>
    refine walk [17, 18] pl53 hD Tryd.func53 rfl Tryd.ntmps53 res53 (by kernel_rfl) no_facts ?_
    simp (config := { maxSteps := 4000000 }) only [↓sx0, ↓sx1, ↓sx2, ↓sx3, ↓sx4, ↓sx5, ↓sx6, sx0, sx1, sx2, sx3, sx4, sx5, sx6, tf53, ev3_hold, sxo, sxc, sxp, sxq, sxr, sxs, sxl, sxm, Int.reduceBEq, Int.reduceBNe, Int.reduceLT, Int.reduceLE, Int.reduceEq, Int.reduceGT, Int.reduceGE, Int.reduceToNat, ↓reduceIte, List.reduceReplicate, Nat.reduceAdd, Nat.reduceSub, Nat.reduceMul, Nat.reduceLT, Nat.reduceLeDiff, Nat.reduceBEq, Nat.reduceEqDiff, hck, detV_eq, e5, hci, h2, h3]
  | true =>
  cases h4 : inB A.pitch 1 2000 with
  | false =>
    refine walk [17, 18] pl53 hD Tryd.func53 rfl Tryd.ntmps53 res53 (by kernel_rfl) no_facts ?_
    simp (config := { maxSteps := 4000000 }) only [↓sx0, ↓sx1, ↓sx2, ↓sx3, ↓sx4, ↓sx5, ↓sx6, sx0, sx1, sx2, sx3, sx4, sx5, sx6, tf53, ev3_hold, sxo, sxc, sxp, sxq, sxr, sxs, sxl, sxm, Int.reduceBEq, Int.reduceBNe, Int.reduceLT, Int.reduceLE, Int.reduceEq, Int.reduceGT, Int.reduceGE, Int.reduceToNat, ↓reduceIte, List.reduceReplicate, Nat.reduceAdd, Nat.reduceSub, Nat.reduceMul, Nat.reduceLT, Nat.reduceLeDiff, Nat.reduceBEq, Nat.reduceEqDiff, hck, detV_eq, e5, hci, h2, h3, h4]
  | true =>
  rw [h2, h3, h4] at he
  have hoe : openE c [A.cell] [t] [] = if notTick c t then 1 else 0 := by
    unfold openE
    rw [hok, if_pos rfl]
    simp [h1]
  have hof : openE c [A.cell] [t] [g] = if notTick c t || notDraught g then 1 else 0 := by
    unfold openE
    rw [hok, if_pos rfl]
    simp [h1]
  have h1of : openE c [A.cell] [t] [g] = 1 := by
    rw [hof]
    cases h5 : notTick c t with
    | true => rfl
    | false =>
      cases h6 : notDraught g with
      | true => rfl
      | false => rw [h5, h6] at he; exact absurd rfl he
  have hfv : floatsV c g A.cell t = .tuple #[.bool false, .bool false, I 1] := by
    unfold floatsV
    rw [h1of, if_neg (by decide)]
  have hgt : (notDraught g || notTick c t) = true := by
    cases h5 : notTick c t with
    | true => simp
    | false =>
      cases h6 : notDraught g with
      | true => rfl
      | false => rw [h5, h6] at he; exact absurd rfl he
  have hwv : ∃ a b e, waterV c A.cell t = .tuple #[.agg #[I a, I b], I e] := waterV_shape c A.cell t
  obtain ⟨wa, wb, we, hwv⟩ := hwv
  rw [hfv] at hfl
  rw [hwv] at hwt
  rw [hgt]
  by_cases hwe : we = 0
  · have k1 : (we = 0) = True := eq_true hwe
    refine walk [17, 18] pl53 hD Tryd.func53 rfl Tryd.ntmps53 res53 (by kernel_rfl) no_facts ?_
    simp (config := { maxSteps := 4000000 }) only [↓sx0, ↓sx1, ↓sx2, ↓sx3, ↓sx4, ↓sx5, ↓sx6, sx0, sx1, sx2, sx3, sx4, sx5, sx6, tf53, ev3_hold, sxo, sxc, sxp, sxq, sxr, sxs, sxl, sxm, Int.reduceBEq, Int.reduceBNe, Int.reduceLT, Int.reduceLE, Int.reduceEq, Int.reduceGT, Int.reduceGE, Int.reduceToNat, ↓reduceIte, List.reduceReplicate, Nat.reduceAdd, Nat.reduceSub, Nat.reduceMul, Nat.reduceLT, Nat.reduceLeDiff, Nat.reduceBEq, Nat.reduceEqDiff, hck, detV_eq, e5, hci, h2, h3, h4, dn]
    refine CallOb.pureH (fun w' hp => hwt _ w' hp) ?_
    rintro r1 N1 rfl
    refine ⟨?_⟩
    simp (config := { maxSteps := 4000000 }) only [↓sx0, ↓sx1, ↓sx2, ↓sx3, ↓sx4, ↓sx5, ↓sx6, sx0, sx1, sx2, sx3, sx4, sx5, sx6, tf53, ev3_hold, sxo, sxc, sxp, sxq, sxr, sxs, sxl, sxm, Int.reduceBEq, Int.reduceBNe, Int.reduceLT, Int.reduceLE, Int.reduceEq, Int.reduceGT, Int.reduceGE, Int.reduceToNat, ↓reduceIte, List.reduceReplicate, Nat.reduceAdd, Nat.reduceSub, Nat.reduceMul, Nat.reduceLT, Nat.reduceLeDiff, Nat.reduceBEq, Nat.reduceEqDiff, dn]
    refine CallOb.pureH (fun w' hp => hfl _ w' hp) ?_
    rintro r2 N2 rfl
    refine ⟨?_⟩
    simp (config := { maxSteps := 4000000 }) only [↓sx0, ↓sx1, ↓sx2, ↓sx3, ↓sx4, ↓sx5, ↓sx6, sx0, sx1, sx2, sx3, sx4, sx5, sx6, tf53, ev3_hold, sxo, sxc, sxp, sxq, sxr, sxs, sxl, sxm, Int.reduceBEq, Int.reduceBNe, Int.reduceLT, Int.reduceLE, Int.reduceEq, Int.reduceGT, Int.reduceGE, Int.reduceToNat, ↓reduceIte, List.reduceReplicate, Nat.reduceAdd, Nat.reduceSub, Nat.reduceMul, Nat.reduceLT, Nat.reduceLeDiff, Nat.reduceBEq, Nat.reduceEqDiff, k1]
  · have k1 : (we = 0) = False := eq_false hwe
    refine walk [17, 18] pl53 hD Tryd.func53 rfl Tryd.ntmps53 res53 (by kernel_rfl) no_facts ?_
    simp (config := { maxSteps := 4000000 }) only [↓sx0, ↓sx1, ↓sx2, ↓sx3, ↓sx4, ↓sx5, ↓sx6, sx0, sx1, sx2, sx3, sx4, sx5, sx6, tf53, ev3_hold, sxo, sxc, sxp, sxq, sxr, sxs, sxl, sxm, Int.reduceBEq, Int.reduceBNe, Int.reduceLT, Int.reduceLE, Int.reduceEq, Int.reduceGT, Int.reduceGE, Int.reduceToNat, ↓reduceIte, List.reduceReplicate, Nat.reduceAdd, Nat.reduceSub, Nat.reduceMul, Nat.reduceLT, Nat.reduceLeDiff, Nat.reduceBEq, Nat.reduceEqDiff, hck, detV_eq, e5, hci, h2, h3, h4, dn]
    refine CallOb.pureH (fun w' hp => hwt _ w' hp) ?_
    rintro r1 N1 rfl
    refine ⟨?_⟩
    simp (config := { maxSteps := 4000000 }) only [↓sx0, ↓sx1, ↓sx2, ↓sx3, ↓sx4, ↓sx5, ↓sx6, sx0, sx1, sx2, sx3, sx4, sx5, sx6, tf53, ev3_hold, sxo, sxc, sxp, sxq, sxr, sxs, sxl, sxm, Int.reduceBEq, Int.reduceBNe, Int.reduceLT, Int.reduceLE, Int.reduceEq, Int.reduceGT, Int.reduceGE, Int.reduceToNat, ↓reduceIte, List.reduceReplicate, Nat.reduceAdd, Nat.reduceSub, Nat.reduceMul, Nat.reduceLT, Nat.reduceLeDiff, Nat.reduceBEq, Nat.reduceEqDiff, dn]
    refine CallOb.pureH (fun w' hp => hfl _ w' hp) ?_
    rintro r2 N2 rfl
    refine ⟨?_⟩
    simp (config := { maxSteps := 4000000 }) only [↓sx0, ↓sx1, ↓sx2, ↓sx3, ↓sx4, ↓sx5, ↓sx6, sx0, sx1, sx2, sx3, sx4, sx5, sx6, tf53, ev3_hold, sxo, sxc, sxp, sxq, sxr, sxs, sxl, sxm, Int.reduceBEq, Int.reduceBNe, Int.reduceLT, Int.reduceLE, Int.reduceEq, Int.reduceGT, Int.reduceGE, Int.reduceToNat, ↓reduceIte, List.reduceReplicate, Nat.reduceAdd, Nat.reduceSub, Nat.reduceMul, Nat.reduceLT, Nat.reduceLeDiff, Nat.reduceBEq, Nat.reduceEqDiff, k1]

end Go.Proofs.YtcnjhgnlcnmagaaDoor
