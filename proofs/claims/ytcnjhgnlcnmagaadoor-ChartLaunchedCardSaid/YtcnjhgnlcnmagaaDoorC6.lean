/- Parts of a proof: the symbolic walk and what it shows of single functions. -/
import Derived.Test.YtcnjhgnlcnmagaaDoorC5
import Derived.Test.YtcnjhgnlcnmagaaDoorX5
set_option linter.all false
namespace Go.Proofs.YtcnjhgnlcnmagaaDoor
open Go.RowKit Go.SX
set_option maxRecDepth 20000
set_option maxHeartbeats 8000000
set_option linter.unusedSimpArgs false
set_option linter.unusedVariables false

theorem chartBack_fn (w : World) (hw : Ways w) (v : Value) (c : Cht) (hc : ChOk w v c) (a b o : Int) : SX.Fn Tryd.prog 6 [v, I a, I b, I o] w (fun _ => False) fun r N => r = .bool true := by
  have hc0 := hc
  have hD := detR_ok (X := fun _ => False) hw hc (fun _ _ => id)
  obtain ⟨sD, sT, sS, rfl, hsD, hsT, hsS⟩ := hc
  obtain ⟨aD, nD, cD, rfl⟩ := hsD.shape
  obtain ⟨aT, nT, cT, rfl⟩ := hsT.shape
  obtain ⟨aS, nS, cS, rfl⟩ := hsS.shape
  have dn : (∀ xs, detR (.agg #[I c.wide, I c.high, .slice aD nD cD, .slice aT nT cT, .slice aS nS cS]) c 14 xs = none) ∧ (∀ xs, detR (.agg #[I c.wide, I c.high, .slice aD nD cD, .slice aT nT cT, .slice aS nS cS]) c 15 xs = none) ∧ (∀ xs, detR (.agg #[I c.wide, I c.high, .slice aD nD cD, .slice aT nT cT, .slice aS nS cS]) c 26 xs = none) ∧ (∀ xs, detR (.agg #[I c.wide, I c.high, .slice aD nD cD, .slice aT nT cT, .slice aS nS cS]) c 28 xs = none) := ⟨fun _ => rfl, fun _ => rfl, fun _ => rfl, fun _ => rfl⟩
  refine walk [] [] hD Tryd.func6 rfl Tryd.ntmps6 res6 (by kernel_rfl) no_facts ?_
  simp (config := { maxSteps := 4000000 }) only [↓sx0, ↓sx1, ↓sx2, ↓sx3, ↓sx4, ↓sx5, ↓sx6, sx0, sx1, sx2, sx3, sx4, sx5, sx6, tf6, ev3_hold, sxo, sxc, sxp, sxq, sxr, sxs, sxl, sxm, Int.reduceBEq, Int.reduceBNe, Int.reduceLT, Int.reduceLE, Int.reduceEq, Int.reduceGT, Int.reduceGE, Int.reduceToNat, ↓reduceIte, List.reduceReplicate, Nat.reduceAdd, Nat.reduceSub, Nat.reduceMul, Nat.reduceLT, Nat.reduceLeDiff, Nat.reduceBEq, Nat.reduceEqDiff, dn]
  refine CallOb.pureH (fun w' hp => vast_fn w' _ c (hc0.hp hp)) ?_
  rintro r0 N0 ⟨t0, rfl, hb0⟩
  have hwk : ∀ (H : List HO) w', Hp ⟨w, fun _ => False⟩ H w' → SX.Fn Tryd.prog 15 [] w' (fun _ => False) fun r N => r = .bool true := fun H w' hp => works_fn w' (hw.hp hp)
  cases t0 with
  | true =>
    refine ⟨?_⟩
    simp (config := { maxSteps := 4000000 }) only [↓sx0, ↓sx1, ↓sx2, ↓sx3, ↓sx4, ↓sx5, ↓sx6, sx0, sx1, sx2, sx3, sx4, sx5, sx6, tf6, ev3_hold, sxo, sxc, sxp, sxq, sxr, sxs, sxl, sxm, Int.reduceBEq, Int.reduceBNe, Int.reduceLT, Int.reduceLE, Int.reduceEq, Int.reduceGT, Int.reduceGE, Int.reduceToNat, ↓reduceIte, List.reduceReplicate, Nat.reduceAdd, Nat.reduceSub, Nat.reduceMul, Nat.reduceLT, Nat.reduceLeDiff, Nat.reduceBEq, Nat.reduceEqDiff, dn]
    refine CallOb.pureH (fun w' hp => hwk _ w' hp) ?_
    rintro r1 N1 rfl
    refine ⟨?_⟩
    simp (config := { maxSteps := 4000000 }) only [↓sx0, ↓sx1, ↓sx2, ↓sx3, ↓sx4, ↓sx5, ↓sx6, sx0, sx1, sx2, sx3, sx4, sx5, sx6, tf6, ev3_hold, sxo, sxc, sxp, sxq, sxr, sxs, sxl, sxm, Int.reduceBEq, Int.reduceBNe, Int.reduceLT, Int.reduceLE, Int.reduceEq, Int.reduceGT, Int.reduceGE, Int.reduceToNat, ↓reduceIte, List.reduceReplicate, Nat.reduceAdd, Nat.reduceSub, Nat.reduceMul, Nat.reduceLT, Nat.reduceLeDiff, Nat.reduceBEq, Nat.reduceEqDiff]
  | false =>
  have hf := (hb0 rfl).1
  have hsm := few_small hf
  have hck := (detR_check (v := .agg #[I c.wide, I c.high, .slice aD nD cD, .slice aT nT cT, .slice aS nS cS]) hsm).2
  cases hok : c.okB with
  | false =>
    rw [hok] at hck
    refine ⟨?_⟩
    simp (config := { maxSteps := 4000000 }) only [↓sx0, ↓sx1, ↓sx2, ↓sx3, ↓sx4, ↓sx5, ↓sx6, sx0, sx1, sx2, sx3, sx4, sx5, sx6, tf6, ev3_hold, sxo, sxc, sxp, sxq, sxr, sxs, sxl, sxm, Int.reduceBEq, Int.reduceBNe, Int.reduceLT, Int.reduceLE, Int.reduceEq, Int.reduceGT, Int.reduceGE, Int.reduceToNat, ↓reduceIte, List.reduceReplicate, Nat.reduceAdd, Nat.reduceSub, Nat.reduceMul, Nat.reduceLT, Nat.reduceLeDiff, Nat.reduceBEq, Nat.reduceEqDiff, dn, hck]
    refine CallOb.pureH (fun w' hp => hwk _ w' hp) ?_
    rintro r1 N1 rfl
    refine ⟨?_⟩
    simp (config := { maxSteps := 4000000 }) only [↓sx0, ↓sx1, ↓sx2, ↓sx3, ↓sx4, ↓sx5, ↓sx6, sx0, sx1, sx2, sx3, sx4, sx5, sx6, tf6, ev3_hold, sxo, sxc, sxp, sxq, sxr, sxs, sxl, sxm, Int.reduceBEq, Int.reduceBNe, Int.reduceLT, Int.reduceLE, Int.reduceEq, Int.reduceGT, Int.reduceGE, Int.reduceToNat, ↓reduceIte, List.reduceReplicate, Nat.reduceAdd, Nat.reduceSub, Nat.reduceMul, Nat.reduceLT, Nat.reduceLeDiff, Nat.reduceBEq, Nat.reduceEqDiff]
  | true =>
  rw [hok, if_pos rfl] at hck
  have hok' := (okB_iff c).1 hok
  have ica := isCell_iff hok' a
  have icb := isCell_iff hok' b
  have ico := isCell_iff hok' o
  cases ha : notCell c a with
  | true =>
    rw [ha] at ica
    refine ⟨?_⟩
    simp (config := { maxSteps := 4000000 }) only [↓sx0, ↓sx1, ↓sx2, ↓sx3, ↓sx4, ↓sx5, ↓sx6, sx0, sx1, sx2, sx3, sx4, sx5, sx6, tf6, ev3_hold, sxo, sxc, sxp, sxq, sxr, sxs, sxl, sxm, Int.reduceBEq, Int.reduceBNe, Int.reduceLT, Int.reduceLE, Int.reduceEq, Int.reduceGT, Int.reduceGE, Int.reduceToNat, ↓reduceIte, List.reduceReplicate, Nat.reduceAdd, Nat.reduceSub, Nat.reduceMul, Nat.reduceLT, Nat.reduceLeDiff, Nat.reduceBEq, Nat.reduceEqDiff, dn, hck, detR_eq, ica]
    refine CallOb.pureH (fun w' hp => hwk _ w' hp) ?_
    rintro r1 N1 rfl
    refine ⟨?_⟩
    simp (config := { maxSteps := 4000000 }) only [↓sx0, ↓sx1, ↓sx2, ↓sx3, ↓sx4, ↓sx5, ↓sx6, sx0, sx1, sx2, sx3, sx4, sx5, sx6, tf6, ev3_hold, sxo, sxc, sxp, sxq, sxr, sxs, sxl, sxm, Int.reduceBEq, Int.reduceBNe, Int.reduceLT, Int.reduceLE, Int.reduceEq, Int.reduceGT, Int.reduceGE, Int.reduceToNat, ↓reduceIte, List.reduceReplicate, Nat.reduceAdd, Nat.reduceSub, Nat.reduceMul, Nat.reduceLT, Nat.reduceLeDiff, Nat.reduceBEq, Nat.reduceEqDiff]
  | false =>
  rw [ha] at ica
  cases hb : notCell c b with
  | true =>
    rw [hb] at icb
    refine ⟨?_⟩
    simp (config := { maxSteps := 4000000 }) only [↓sx0, ↓sx1, ↓sx2, ↓sx3, ↓sx4, ↓sx5, ↓sx6, sx0, sx1, sx2, sx3, sx4, sx5, sx6, tf6, ev3_hold, sxo, sxc, sxp, sxq, sxr, sxs, sxl, sxm, Int.reduceBEq, Int.reduceBNe, Int.reduceLT, Int.reduceLE, Int.reduceEq, Int.reduceGT, Int.reduceGE, Int.reduceToNat, ↓reduceIte, List.reduceReplicate, Nat.reduceAdd, Nat.reduceSub, Nat.reduceMul, Nat.reduceLT, Nat.reduceLeDiff, Nat.reduceBEq, Nat.reduceEqDiff, dn, hck, detR_eq, ica, icb]
    refine CallOb.pureH (fun w' hp => hwk _ w' hp) ?_
    rintro r1 N1 rfl
    refine ⟨?_⟩
    simp (config := { maxSteps := 4000000 }) only [↓sx0, ↓sx1, ↓sx2, ↓sx3, ↓sx4, ↓sx5, ↓sx6, sx0, sx1, sx2, sx3, sx4, sx5, sx6, tf6, ev3_hold, sxo, sxc, sxp, sxq, sxr, sxs, sxl, sxm, Int.reduceBEq, Int.reduceBNe, Int.reduceLT, Int.reduceLE, Int.reduceEq, Int.reduceGT, Int.reduceGE, Int.reduceToNat, ↓reduceIte, List.reduceReplicate, Nat.reduceAdd, Nat.reduceSub, Nat.reduceMul, Nat.reduceLT, Nat.reduceLeDiff, Nat.reduceBEq, Nat.reduceEqDiff]
  | false =>
  rw [hb] at icb
  cases ho : notCell c o with
  | true =>
    rw [ho] at ico
    refine ⟨?_⟩
    simp (config := { maxSteps := 4000000 }) only [↓sx0, ↓sx1, ↓sx2, ↓sx3, ↓sx4, ↓sx5, ↓sx6, sx0, sx1, sx2, sx3, sx4, sx5, sx6, tf6, ev3_hold, sxo, sxc, sxp, sxq, sxr, sxs, sxl, sxm, Int.reduceBEq, Int.reduceBNe, Int.reduceLT, Int.reduceLE, Int.reduceEq, Int.reduceGT, Int.reduceGE, Int.reduceToNat, ↓reduceIte, List.reduceReplicate, Nat.reduceAdd, Nat.reduceSub, Nat.reduceMul, Nat.reduceLT, Nat.reduceLeDiff, Nat.reduceBEq, Nat.reduceEqDiff, dn, hck, detR_eq, ica, icb, ico]
    refine CallOb.pureH (fun w' hp => hwk _ w' hp) ?_
    rintro r1 N1 rfl
    refine ⟨?_⟩
    simp (config := { maxSteps := 4000000 }) only [↓sx0, ↓sx1, ↓sx2, ↓sx3, ↓sx4, ↓sx5, ↓sx6, sx0, sx1, sx2, sx3, sx4, sx5, sx6, tf6, ev3_hold, sxo, sxc, sxp, sxq, sxr, sxs, sxl, sxm, Int.reduceBEq, Int.reduceBNe, Int.reduceLT, Int.reduceLE, Int.reduceEq, Int.reduceGT, Int.reduceGE, Int.reduceToNat, ↓reduceIte, List.reduceReplicate, Nat.reduceAdd, Nat.reduceSub, Nat.reduceMul, Nat.reduceLT, Nat.reduceLeDiff, Nat.reduceBEq, Nat.reduceEqDiff]
  | false =>
  rw [ho] at ico
  have ka := cell_of ha
  have kb := cell_of hb
  have ko := cell_of ho
  obtain ⟨A, rfl, hA⟩ := ka
  obtain ⟨B, rfl, hB⟩ := kb
  obtain ⟨O, rfl, hO⟩ := ko
  obtain ⟨eW, eH, hW, hH, hlen⟩ := hok'.dims
  refine ⟨?_⟩
  simp (config := { maxSteps := 4000000 }) only [↓sx0, ↓sx1, ↓sx2, ↓sx3, ↓sx4, ↓sx5, ↓sx6, sx0, sx1, sx2, sx3, sx4, sx5, sx6, tf6, ev3_hold, sxo, sxc, sxp, sxq, sxr, sxs, sxl, sxm, Int.reduceBEq, Int.reduceBNe, Int.reduceLT, Int.reduceLE, Int.reduceEq, Int.reduceGT, Int.reduceGE, Int.reduceToNat, ↓reduceIte, List.reduceReplicate, Nat.reduceAdd, Nat.reduceSub, Nat.reduceMul, Nat.reduceLT, Nat.reduceLeDiff, Nat.reduceBEq, Nat.reduceEqDiff, dn, hck, detR_eq, ica, icb, ico]
  refine loop_constI [] (HImp.nil _ _) [(8, 14), (49, 85)] (fun d : Nat => [(9, .bool (decide (B ∈ besL c.W c.H A d))), (10, I d)]) (fun d H1 => d ≤ 6) (fun d => 6 - d) 0 ?_ (Nat.zero_le _) ?_
  · simp (config := { maxSteps := 4000000 }) only [↓sx0, ↓sx1, ↓sx2, ↓sx3, ↓sx4, ↓sx5, ↓sx6, sx0, sx1, sx2, sx3, sx4, sx5, sx6, tf6, ev3_hold, sxo, sxc, sxp, sxq, sxr, sxs, sxl, sxm, Int.reduceBEq, Int.reduceBNe, Int.reduceLT, Int.reduceLE, Int.reduceEq, Int.reduceGT, Int.reduceGE, Int.reduceToNat, ↓reduceIte, List.reduceReplicate, Nat.reduceAdd, Nat.reduceSub, Nat.reduceMul, Nat.reduceLT, Nat.reduceLeDiff, Nat.reduceBEq, Nat.reduceEqDiff]
    simp [besL]
  · rintro d H1 g1 hd
    by_cases hd6 : d = 6
    · subst hd6
      have e7 : (((6 : Nat) : Int) < 6) = False := eq_false (by omega)
      simp (config := { maxSteps := 4000000 }) only [↓sx0, ↓sx1, ↓sx2, ↓sx3, ↓sx4, ↓sx5, ↓sx6, sx0, sx1, sx2, sx3, sx4, sx5, sx6, tf6, ev3_hold, sxo, sxc, sxp, sxq, sxr, sxs, sxl, sxm, Int.reduceBEq, Int.reduceBNe, Int.reduceLT, Int.reduceLE, Int.reduceEq, Int.reduceGT, Int.reduceGE, Int.reduceToNat, ↓reduceIte, List.reduceReplicate, Nat.reduceAdd, Nat.reduceSub, Nat.reduceMul, Nat.reduceLT, Nat.reduceLeDiff, Nat.reduceBEq, Nat.reduceEqDiff, e7, dn]
      refine CallOb.pureH (fun w' hp => apart_at w' (hw.hp hp) _ c (hc0.hp hp) hsm hok' A B hA hB) ?_
      rintro r1 N1 rfl
      refine ⟨?_⟩
      simp (config := { maxSteps := 4000000 }) only [↓sx0, ↓sx1, ↓sx2, ↓sx3, ↓sx4, ↓sx5, ↓sx6, sx0, sx1, sx2, sx3, sx4, sx5, sx6, tf6, ev3_hold, sxo, sxc, sxp, sxq, sxr, sxs, sxl, sxm, Int.reduceBEq, Int.reduceBNe, Int.reduceLT, Int.reduceLE, Int.reduceEq, Int.reduceGT, Int.reduceGE, Int.reduceToNat, ↓reduceIte, List.reduceReplicate, Nat.reduceAdd, Nat.reduceSub, Nat.reduceMul, Nat.reduceLT, Nat.reduceLeDiff, Nat.reduceBEq, Nat.reduceEqDiff, dn]
      refine CallOb.pureH (fun w' hp => apart_at w' (hw.hp hp) _ c (hc0.hp hp) hsm hok' B A hB hA) ?_
      rintro r2 N2 rfl
      refine ⟨?_⟩
      simp (config := { maxSteps := 4000000 }) only [↓sx0, ↓sx1, ↓sx2, ↓sx3, ↓sx4, ↓sx5, ↓sx6, sx0, sx1, sx2, sx3, sx4, sx5, sx6, tf6, ev3_hold, sxo, sxc, sxp, sxq, sxr, sxs, sxl, sxm, Int.reduceBEq, Int.reduceBNe, Int.reduceLT, Int.reduceLE, Int.reduceEq, Int.reduceGT, Int.reduceGE, Int.reduceToNat, ↓reduceIte, List.reduceReplicate, Nat.reduceAdd, Nat.reduceSub, Nat.reduceMul, Nat.reduceLT, Nat.reduceLeDiff, Nat.reduceBEq, Nat.reduceEqDiff, dn]
      refine CallOb.pureH (fun w' hp => apart_at w' (hw.hp hp) _ c (hc0.hp hp) hsm hok' A O hA hO) ?_
      rintro r3 N3 rfl
      refine ⟨?_⟩
      simp (config := { maxSteps := 4000000 }) only [↓sx0, ↓sx1, ↓sx2, ↓sx3, ↓sx4, ↓sx5, ↓sx6, sx0, sx1, sx2, sx3, sx4, sx5, sx6, tf6, ev3_hold, sxo, sxc, sxp, sxq, sxr, sxs, sxl, sxm, Int.reduceBEq, Int.reduceBNe, Int.reduceLT, Int.reduceLE, Int.reduceEq, Int.reduceGT, Int.reduceGE, Int.reduceToNat, ↓reduceIte, List.reduceReplicate, Nat.reduceAdd, Nat.reduceSub, Nat.reduceMul, Nat.reduceLT, Nat.reduceLeDiff, Nat.reduceBEq, Nat.reduceEqDiff, dn]
      refine CallOb.pureH (fun w' hp => apart_at w' (hw.hp hp) _ c (hc0.hp hp) hsm hok' O B hO hB) ?_
      rintro r4 N4 rfl
      have l1 := dst_lt (a := A) (x := O) (by omega : A < c.W * c.H) (by omega)
      have l2 := dst_lt (a := O) (x := B) (by omega : O < c.W * c.H) (by omega)
      have s1 := dst_symm (a := A) (x := B) (by omega : A < c.W * c.H) (by omega)
      have s2 := dst_over (a := A) (x := B) (o := O) (by omega : A < c.W * c.H) (by omega) (by omega)
      have s3 := dst_zero (a := A) (x := B) (by omega : A < c.W * c.H) (by omega)
      have s4 := dst_one (a := A) (x := B) (by omega : A < c.W * c.H) (by omega)
      have h144 := Nat.mul_le_mul hW.2 hH.2
      have e1 : (((dst c.W c.H A B : Nat) : Int) = ((dst c.W c.H B A : Nat) : Int)) = True := eq_true (by omega)
      have e2 : IntKind.i64.wrap (((dst c.W c.H A O : Nat) : Int) + ((dst c.W c.H O B : Nat) : Int)) = ((dst c.W c.H A O : Nat) : Int) + ((dst c.W c.H O B : Nat) : Int) := wrap_id (by omega)
      have e3 : (((dst c.W c.H A B : Nat) : Int) ≤ ((dst c.W c.H A O : Nat) : Int) + ((dst c.W c.H O B : Nat) : Int)) = True := eq_true (by omega)
      have e4 : (((dst c.W c.H A B : Nat) : Int) == 1) = decide (B ∈ besL c.W c.H A 6) := by
        rw [Bool.eq_iff_iff, beq_iff_eq, decide_eq_true_eq, ← s4]
        omega
      have e5 : (((dst c.W c.H A B : Nat) : Int) == 0) = ((A : Int) == (B : Int)) := by
        rw [Bool.eq_iff_iff, beq_iff_eq, beq_iff_eq]
        omega
      refine ⟨?_⟩
      simp (config := { maxSteps := 4000000 }) only [↓sx0, ↓sx1, ↓sx2, ↓sx3, ↓sx4, ↓sx5, ↓sx6, sx0, sx1, sx2, sx3, sx4, sx5, sx6, tf6, ev3_hold, sxo, sxc, sxp, sxq, sxr, sxs, sxl, sxm, Int.reduceBEq, Int.reduceBNe, Int.reduceLT, Int.reduceLE, Int.reduceEq, Int.reduceGT, Int.reduceGE, Int.reduceToNat, ↓reduceIte, List.reduceReplicate, Nat.reduceAdd, Nat.reduceSub, Nat.reduceMul, Nat.reduceLT, Nat.reduceLeDiff, Nat.reduceBEq, Nat.reduceEqDiff, dn, e1, e2, e3, e4, e5]
      refine CallOb.pureH (fun w' hp => hwk _ w' hp) ?_
      rintro r5 N5 rfl
      refine ⟨?_⟩
      simp (config := { maxSteps := 4000000 }) only [↓sx0, ↓sx1, ↓sx2, ↓sx3, ↓sx4, ↓sx5, ↓sx6, sx0, sx1, sx2, sx3, sx4, sx5, sx6, tf6, ev3_hold, sxo, sxc, sxp, sxq, sxr, sxs, sxl, sxm, Int.reduceBEq, Int.reduceBNe, Int.reduceLT, Int.reduceLE, Int.reduceEq, Int.reduceGT, Int.reduceGE, Int.reduceToNat, ↓reduceIte, List.reduceReplicate, Nat.reduceAdd, Nat.reduceSub, Nat.reduceMul, Nat.reduceLT, Nat.reduceLeDiff, Nat.reduceBEq, Nat.reduceEqDiff]
    have e7 : ((d : Int) < 6) = True := eq_true (by omega)
    have e8 : IntKind.i64.wrap ((d : Int) + 1) = ((d + 1 : Nat) : Int) := (wrap_id (by omega)).trans (by omega)
    have e9 : IntKind.i64.wrap ((d : Int) + 3) = ((d + 3 : Nat) : Int) := (wrap_id (by omega)).trans (by omega)
    have dv : inB d 0 5 = true := (inB_iff _ _ _).2 (by omega)
    have hbs := besL_succ c.W c.H A d
    simp (config := { maxSteps := 4000000 }) only [↓sx0, ↓sx1, ↓sx2, ↓sx3, ↓sx4, ↓sx5, ↓sx6, sx0, sx1, sx2, sx3, sx4, sx5, sx6, tf6, ev3_hold, sxo, sxc, sxp, sxq, sxr, sxs, sxl, sxm, Int.reduceBEq, Int.reduceBNe, Int.reduceLT, Int.reduceLE, Int.reduceEq, Int.reduceGT, Int.reduceGE, Int.reduceToNat, ↓reduceIte, List.reduceReplicate, Nat.reduceAdd, Nat.reduceSub, Nat.reduceMul, Nat.reduceLT, Nat.reduceLeDiff, Nat.reduceBEq, Nat.reduceEqDiff, e7, dn]
    refine CallOb.pureH (fun w' hp => next1_fn w' (hw.hp hp) _ c (hc0.hp hp) hsm A d) ?_
    intro r1 N1 h1
    unfold nextE at h1
    rw [hok, ha, dv] at h1
    simp only [if_true, Bool.not_true, Bool.or_self, Bool.false_eq_true, if_false, Int.toNat_natCast] at h1
    cases hbe : bes c.W c.H A d with
    | none =>
      rw [hbe] at h1 hbs
      simp only [Option.toList_none, List.append_nil] at h1 hbs
      subst h1
      refine ⟨?_⟩
      simp (config := { maxSteps := 4000000 }) only [↓sx0, ↓sx1, ↓sx2, ↓sx3, ↓sx4, ↓sx5, ↓sx6, sx0, sx1, sx2, sx3, sx4, sx5, sx6, tf6, ev3_hold, sxo, sxc, sxp, sxq, sxr, sxs, sxl, sxm, Int.reduceBEq, Int.reduceBNe, Int.reduceLT, Int.reduceLE, Int.reduceEq, Int.reduceGT, Int.reduceGE, Int.reduceToNat, ↓reduceIte, List.reduceReplicate, Nat.reduceAdd, Nat.reduceSub, Nat.reduceMul, Nat.reduceLT, Nat.reduceLeDiff, Nat.reduceBEq, Nat.reduceEqDiff, dn, e8]
      refine ⟨d + 1, _, ?_, HImp.nil _ _, by omega, by omega⟩
      rw [hbs]
      exact ⟨rfl, rfl⟩
    | some n =>
      rw [hbe] at h1 hbs
      simp only [Option.toList_some] at h1 hbs
      subst h1
      have e10 : ((d + 3 : Nat) : Int).tmod 6 = (((d + 3) % 6 : Nat) : Int) := by
        rw [Int.tmod_eq_emod_of_nonneg (by omega)]
        omega
      have hn := bes_lt hbe
      have hnn : notCell c n = false := by
        unfold notCell
        rw [Bool.not_eq_false', inB_iff]
        omega
      have dv2 : inB (((d + 3) % 6 : Nat) : Int) 0 5 = true := (inB_iff _ _ _).2 (by omega)
      have hbk := bes_back (by omega : A < c.W * c.H) (by omega : d < 6) hbe
      refine ⟨?_⟩
      simp (config := { maxSteps := 4000000 }) only [↓sx0, ↓sx1, ↓sx2, ↓sx3, ↓sx4, ↓sx5, ↓sx6, sx0, sx1, sx2, sx3, sx4, sx5, sx6, tf6, ev3_hold, sxo, sxc, sxp, sxq, sxr, sxs, sxl, sxm, Int.reduceBEq, Int.reduceBNe, Int.reduceLT, Int.reduceLE, Int.reduceEq, Int.reduceGT, Int.reduceGE, Int.reduceToNat, ↓reduceIte, List.reduceReplicate, Nat.reduceAdd, Nat.reduceSub, Nat.reduceMul, Nat.reduceLT, Nat.reduceLeDiff, Nat.reduceBEq, Nat.reduceEqDiff, dn, e9, e10]
      refine CallOb.pureH (fun w' hp => next1_fn w' (hw.hp hp) _ c (hc0.hp hp) hsm n (((d + 3) % 6 : Nat) : Int)) ?_
      intro r2 N2 h2
      unfold nextE at h2
      rw [hok, hnn, dv2] at h2
      simp only [if_true, Bool.not_true, Bool.or_self, Bool.false_eq_true, if_false, Int.toNat_natCast] at h2
      rw [hbk] at h2
      subst h2
      have e11 : ((n : Int) == (B : Int)) = decide (n = B) := by
        rw [Bool.eq_iff_iff, beq_iff_eq, decide_eq_true_eq]
        omega
      refine ⟨?_⟩
      cases hbd : decide (B ∈ besL c.W c.H A d) with
      | true =>
        simp (config := { maxSteps := 4000000 }) only [↓sx0, ↓sx1, ↓sx2, ↓sx3, ↓sx4, ↓sx5, ↓sx6, sx0, sx1, sx2, sx3, sx4, sx5, sx6, tf6, ev3_hold, sxo, sxc, sxp, sxq, sxr, sxs, sxl, sxm, Int.reduceBEq, Int.reduceBNe, Int.reduceLT, Int.reduceLE, Int.reduceEq, Int.reduceGT, Int.reduceGE, Int.reduceToNat, ↓reduceIte, List.reduceReplicate, Nat.reduceAdd, Nat.reduceSub, Nat.reduceMul, Nat.reduceLT, Nat.reduceLeDiff, Nat.reduceBEq, Nat.reduceEqDiff, dn, e8]
        refine ⟨d + 1, _, ?_, HImp.nil _ _, by omega, by omega⟩
        have : B ∈ besL c.W c.H A (d + 1) := by rw [hbs]; exact List.mem_append_left _ (of_decide_eq_true hbd)
        rw [decide_eq_true this]
        exact ⟨rfl, rfl⟩
      | false =>
        simp (config := { maxSteps := 4000000 }) only [↓sx0, ↓sx1, ↓sx2, ↓sx3, ↓sx4, ↓sx5, ↓sx6, sx0, sx1, sx2, sx3, sx4, sx5, sx6, tf6, ev3_hold, sxo, sxc, sxp, sxq, sxr, sxs, sxl, sxm, Int.reduceBEq, Int.reduceBNe, Int.reduceLT, Int.reduceLE, Int.reduceEq, Int.reduceGT, Int.reduceGE, Int.reduceToNat, ↓reduceIte, List.reduceReplicate, Nat.reduceAdd, Nat.reduceSub, Nat.reduceMul, Nat.reduceLT, Nat.reduceLeDiff, Nat.reduceBEq, Nat.reduceEqDiff, dn, e8, e11]
        refine ⟨d + 1, _, ?_, HImp.nil _ _, by omega, by omega⟩
        have : decide (B ∈ besL c.W c.H A (d + 1)) = decide (n = B) := by
          rw [decide_eq_decide, hbs, List.mem_append, List.mem_singleton]
          have := of_decide_eq_false hbd
          constructor
          · rintro (h | h)
            · exact absurd h this
            · exact h.symm
          · intro h
            exact .inr h.symm
        rw [this]
        exact ⟨rfl, rfl⟩

end Go.Proofs.YtcnjhgnlcnmagaaDoor

namespace Go.Proofs.YtcnjhgnlcnmagaaDoor
open Go.RowKit Go.SX
set_option maxRecDepth 4000
set_option maxHeartbeats 8000000
set_option linter.unusedSimpArgs false
set_option linter.unusedVariables false

/-! ### Windows that have a tick; windows in order -/

def inW (t : Int) (p : Int × Int) : Bool := decide (p.1 ≤ t) && decide (t ≤ p.2)

theorem inwin_fn (w : World) (v : Value) (l : List (Int × Int)) (hs : Sl w v 2 (cat spc l)) (hl : l.length < 1000) (t : Int) : SX.Fn Tryd.prog 23 [v, I t] w (fun _ => False) fun r N => r = .bool (l.any (inW t)) := by
  obtain ⟨a, n, cp, rfl⟩ := hs.shape
  have hn := hs.le spc_len (by omega)
  subst hn
  have hr := hs.rd0
  refine walk [] [] (det0_ok _ _) Tryd.func23 rfl Tryd.ntmps23 res23 (by kernel_rfl) no_facts ?_
  simp (config := { maxSteps := 4000000 }) only [↓sx0, ↓sx1, ↓sx2, ↓sx3, ↓sx4, ↓sx5, ↓sx6, sx0, sx1, sx2, sx3, sx4, sx5, sx6, tf23, ev3_hold, sxo, sxc, sxp, sxq, sxr, sxs, sxl, sxm, Int.reduceBEq, Int.reduceBNe, Int.reduceLT, Int.reduceLE, Int.reduceEq, Int.reduceGT, Int.reduceGE, Int.reduceToNat, ↓reduceIte, List.reduceReplicate, Nat.reduceAdd, Nat.reduceSub, Nat.reduceMul, Nat.reduceLT, Nat.reduceLeDiff, Nat.reduceBEq, Nat.reduceEqDiff]
  refine loop_const [(4, 27)] (fun i : Nat => [(5, I i)]) (fun i H1 => i ≤ l.length ∧ H1 = [] ∧ l.any (inW t) = (l.drop i).any (inW t)) (fun i => l.length - i) 0 ?_ ⟨Nat.zero_le _, rfl, by simp⟩ ?_
  · simp (config := { maxSteps := 4000000 }) only [↓sx0, ↓sx1, ↓sx2, ↓sx3, ↓sx4, ↓sx5, ↓sx6, sx0, sx1, sx2, sx3, sx4, sx5, sx6, tf23, ev3_hold, sxo, sxc, sxp, sxq, sxr, sxs, sxl, sxm, Int.reduceBEq, Int.reduceBNe, Int.reduceLT, Int.reduceLE, Int.reduceEq, Int.reduceGT, Int.reduceGE, Int.reduceToNat, ↓reduceIte, List.reduceReplicate, Nat.reduceAdd, Nat.reduceSub, Nat.reduceMul, Nat.reduceLT, Nat.reduceLeDiff, Nat.reduceBEq, Nat.reduceEqDiff]
    simp
  · rintro i H1 g ⟨hi, rfl, ht⟩
    by_cases hil : i = l.length
    · have e7 : ((i : Int) < (l.length : Int)) = False := eq_false (by omega)
      simp (config := { maxSteps := 4000000 }) only [↓sx0, ↓sx1, ↓sx2, ↓sx3, ↓sx4, ↓sx5, ↓sx6, sx0, sx1, sx2, sx3, sx4, sx5, sx6, tf23, ev3_hold, sxo, sxc, sxp, sxq, sxr, sxs, sxl, sxm, Int.reduceBEq, Int.reduceBNe, Int.reduceLT, Int.reduceLE, Int.reduceEq, Int.reduceGT, Int.reduceGE, Int.reduceToNat, ↓reduceIte, List.reduceReplicate, Nat.reduceAdd, Nat.reduceSub, Nat.reduceMul, Nat.reduceLT, Nat.reduceLeDiff, Nat.reduceBEq, Nat.reduceEqDiff, e7]
      rw [ht, hil]
      simp
    have e7 : ((i : Int) < (l.length : Int)) = True := eq_true (by omega)
    have e8 : wr ((i : Int) + 1) = ((i + 1 : Nat) : Int) := (wrap_id (by omega)).trans (by omega)
    have hu : l[i]? = some l[i] := List.getElem?_eq_getElem (by omega)
    rw [List.drop_eq_getElem_cons (by omega : i < l.length), List.any_cons] at ht
    simp (config := { maxSteps := 4000000 }) only [↓sx0, ↓sx1, ↓sx2, ↓sx3, ↓sx4, ↓sx5, ↓sx6, sx0, sx1, sx2, sx3, sx4, sx5, sx6, tf23, ev3_hold, sxo, sxc, sxp, sxq, sxr, sxs, sxl, sxm, Int.reduceBEq, Int.reduceBNe, Int.reduceLT, Int.reduceLE, Int.reduceEq, Int.reduceGT, Int.reduceGE, Int.reduceToNat, ↓reduceIte, List.reduceReplicate, Nat.reduceAdd, Nat.reduceSub, Nat.reduceMul, Nat.reduceLT, Nat.reduceLeDiff, Nat.reduceBEq, Nat.reduceEqDiff, e7]
    refine amid (at_f (hr _) spc_len hu (o := 0) (x := I l[i].1) rfl fun ad1 => ?_)
    by_cases h1 : l[i].1 ≤ t
    · have e1 : (l[i].1 ≤ t) = True := eq_true h1
      simp (config := { maxSteps := 4000000 }) only [↓sx0, ↓sx1, ↓sx2, ↓sx3, ↓sx4, ↓sx5, ↓sx6, sx0, sx1, sx2, sx3, sx4, sx5, sx6, tf23, ev3_hold, sxo, sxc, sxp, sxq, sxr, sxs, sxl, sxm, Int.reduceBEq, Int.reduceBNe, Int.reduceLT, Int.reduceLE, Int.reduceEq, Int.reduceGT, Int.reduceGE, Int.reduceToNat, ↓reduceIte, List.reduceReplicate, Nat.reduceAdd, Nat.reduceSub, Nat.reduceMul, Nat.reduceLT, Nat.reduceLeDiff, Nat.reduceBEq, Nat.reduceEqDiff, e1, e7]
      refine amid (at_f (hr _) spc_len hu (o := 1) (x := I l[i].2) rfl fun ad2 => ?_)
      by_cases h2 : t ≤ l[i].2
      · have e2 : (t ≤ l[i].2) = True := eq_true h2
        simp (config := { maxSteps := 4000000 }) only [↓sx0, ↓sx1, ↓sx2, ↓sx3, ↓sx4, ↓sx5, ↓sx6, sx0, sx1, sx2, sx3, sx4, sx5, sx6, tf23, ev3_hold, sxo, sxc, sxp, sxq, sxr, sxs, sxl, sxm, Int.reduceBEq, Int.reduceBNe, Int.reduceLT, Int.reduceLE, Int.reduceEq, Int.reduceGT, Int.reduceGE, Int.reduceToNat, ↓reduceIte, List.reduceReplicate, Nat.reduceAdd, Nat.reduceSub, Nat.reduceMul, Nat.reduceLT, Nat.reduceLeDiff, Nat.reduceBEq, Nat.reduceEqDiff, e2]
        have : inW t l[i] = true := by simp [inW, h1, h2]
        rw [ht, this]
        rfl
      · have e2 : (t ≤ l[i].2) = False := eq_false h2
        simp (config := { maxSteps := 4000000 }) only [↓sx0, ↓sx1, ↓sx2, ↓sx3, ↓sx4, ↓sx5, ↓sx6, sx0, sx1, sx2, sx3, sx4, sx5, sx6, tf23, ev3_hold, sxo, sxc, sxp, sxq, sxr, sxs, sxl, sxm, Int.reduceBEq, Int.reduceBNe, Int.reduceLT, Int.reduceLE, Int.reduceEq, Int.reduceGT, Int.reduceGE, Int.reduceToNat, ↓reduceIte, List.reduceReplicate, Nat.reduceAdd, Nat.reduceSub, Nat.reduceMul, Nat.reduceLT, Nat.reduceLeDiff, Nat.reduceBEq, Nat.reduceEqDiff, e2, e8]
        have : inW t l[i] = false := by simp [inW, h2]
        exact ⟨i + 1, _, rfl, HImp.refl _ _, ⟨by omega, rfl, by rw [ht, this]; rfl⟩, by omega⟩
    · have e1 : (l[i].1 ≤ t) = False := eq_false h1
      simp (config := { maxSteps := 4000000 }) only [↓sx0, ↓sx1, ↓sx2, ↓sx3, ↓sx4, ↓sx5, ↓sx6, sx0, sx1, sx2, sx3, sx4, sx5, sx6, tf23, ev3_hold, sxo, sxc, sxp, sxq, sxr, sxs, sxl, sxm, Int.reduceBEq, Int.reduceBNe, Int.reduceLT, Int.reduceLE, Int.reduceEq, Int.reduceGT, Int.reduceGE, Int.reduceToNat, ↓reduceIte, List.reduceReplicate, Nat.reduceAdd, Nat.reduceSub, Nat.reduceMul, Nat.reduceLT, Nat.reduceLeDiff, Nat.reduceBEq, Nat.reduceEqDiff, e1, e8]
      have : inW t l[i] = false := by simp [inW, h1]
      exact ⟨i + 1, _, rfl, HImp.refl _ _, ⟨by omega, rfl, by rw [ht, this]; rfl⟩, by omega⟩

end Go.Proofs.YtcnjhgnlcnmagaaDoor

namespace Go.Proofs.YtcnjhgnlcnmagaaDoor
open Go.RowKit Go.SX
set_option maxRecDepth 4000
set_option maxHeartbeats 8000000
set_option linter.unusedSimpArgs false
set_option linter.unusedVariables false

/-- Spans of ticks are in order, with at least one tick between each two. -/
def ordP (l : List (Int × Int)) (n : Int) : Prop := ∀ (i : Nat) (p : Int × Int), l[i]? = some p → 0 ≤ p.1 ∧ p.1 ≤ p.2 ∧ p.2 < n ∧ ∀ q : Int × Int, 0 < i → l[i - 1]? = some q → q.2 + 1 < p.1

theorem ordered_fn (w : World) (v : Value) (l : List (Int × Int)) (hs : Sl w v 2 (cat spc l)) (hl : l.length < 1000) (n : Int) (hn : n < 1000) (ho : ordP l n) : SX.Fn Tryd.prog 22 [v, I n] w (fun _ => False) fun r N => r = .bool true := by
  obtain ⟨a, m, cp, rfl⟩ := hs.shape
  have hm := hs.le spc_len (by omega)
  subst hm
  have hr := hs.rd0
  refine walk [] [] (det0_ok _ _) Tryd.func22 rfl Tryd.ntmps22 res22 (by kernel_rfl) no_facts ?_
  simp (config := { maxSteps := 4000000 }) only [↓sx0, ↓sx1, ↓sx2, ↓sx3, ↓sx4, ↓sx5, ↓sx6, sx0, sx1, sx2, sx3, sx4, sx5, sx6, tf22, ev3_hold, sxo, sxc, sxp, sxq, sxr, sxs, sxl, sxm, Int.reduceBEq, Int.reduceBNe, Int.reduceLT, Int.reduceLE, Int.reduceEq, Int.reduceGT, Int.reduceGE, Int.reduceToNat, ↓reduceIte, List.reduceReplicate, Nat.reduceAdd, Nat.reduceSub, Nat.reduceMul, Nat.reduceLT, Nat.reduceLeDiff, Nat.reduceBEq, Nat.reduceEqDiff]
  refine loop_const [(4, 58)] (fun i : Nat => [(5, I i)]) (fun i H1 => i ≤ l.length ∧ H1 = []) (fun i => l.length - i) 0 ?_ ⟨Nat.zero_le _, rfl⟩ ?_
  · simp (config := { maxSteps := 4000000 }) only [↓sx0, ↓sx1, ↓sx2, ↓sx3, ↓sx4, ↓sx5, ↓sx6, sx0, sx1, sx2, sx3, sx4, sx5, sx6, tf22, ev3_hold, sxo, sxc, sxp, sxq, sxr, sxs, sxl, sxm, Int.reduceBEq, Int.reduceBNe, Int.reduceLT, Int.reduceLE, Int.reduceEq, Int.reduceGT, Int.reduceGE, Int.reduceToNat, ↓reduceIte, List.reduceReplicate, Nat.reduceAdd, Nat.reduceSub, Nat.reduceMul, Nat.reduceLT, Nat.reduceLeDiff, Nat.reduceBEq, Nat.reduceEqDiff]
    simp
  · rintro i H1 g ⟨hi, rfl⟩
    by_cases hil : i = l.length
    · have e7 : ((i : Int) < (l.length : Int)) = False := eq_false (by omega)
      simp (config := { maxSteps := 4000000 }) only [↓sx0, ↓sx1, ↓sx2, ↓sx3, ↓sx4, ↓sx5, ↓sx6, sx0, sx1, sx2, sx3, sx4, sx5, sx6, tf22, ev3_hold, sxo, sxc, sxp, sxq, sxr, sxs, sxl, sxm, Int.reduceBEq, Int.reduceBNe, Int.reduceLT, Int.reduceLE, Int.reduceEq, Int.reduceGT, Int.reduceGE, Int.reduceToNat, ↓reduceIte, List.reduceReplicate, Nat.reduceAdd, Nat.reduceSub, Nat.reduceMul, Nat.reduceLT, Nat.reduceLeDiff, Nat.reduceBEq, Nat.reduceEqDiff, e7]
    have e7 : ((i : Int) < (l.length : Int)) = True := eq_true (by omega)
    have e8 : wr ((i : Int) + 1) = ((i + 1 : Nat) : Int) := (wrap_id (by omega)).trans (by omega)
    have hu : l[i]? = some l[i] := List.getElem?_eq_getElem (by omega)
    have hoi := ho i _ hu
    obtain ⟨h1, h2, h3, h4⟩ := hoi
    have e1 : (l[i].1 < 0) = False := eq_false (by omega)
    have e2 : (l[i].1 > l[i].2) = False := eq_false (by omega)
    have e2' : (l[i].2 < l[i].1) = False := eq_false (by omega)
    have e3 : (l[i].2 ≥ n) = False := eq_false (by omega)
    have e3' : (n ≤ l[i].2) = False := eq_false (by omega)
    simp (config := { maxSteps := 4000000 }) only [↓sx0, ↓sx1, ↓sx2, ↓sx3, ↓sx4, ↓sx5, ↓sx6, sx0, sx1, sx2, sx3, sx4, sx5, sx6, tf22, ev3_hold, sxo, sxc, sxp, sxq, sxr, sxs, sxl, sxm, Int.reduceBEq, Int.reduceBNe, Int.reduceLT, Int.reduceLE, Int.reduceEq, Int.reduceGT, Int.reduceGE, Int.reduceToNat, ↓reduceIte, List.reduceReplicate, Nat.reduceAdd, Nat.reduceSub, Nat.reduceMul, Nat.reduceLT, Nat.reduceLeDiff, Nat.reduceBEq, Nat.reduceEqDiff, e7]
    refine amid (at_f (hr _) spc_len hu (o := 0) (x := I l[i].1) rfl fun ad1 => ?_)
    simp (config := { maxSteps := 4000000 }) only [↓sx0, ↓sx1, ↓sx2, ↓sx3, ↓sx4, ↓sx5, ↓sx6, sx0, sx1, sx2, sx3, sx4, sx5, sx6, tf22, ev3_hold, sxo, sxc, sxp, sxq, sxr, sxs, sxl, sxm, Int.reduceBEq, Int.reduceBNe, Int.reduceLT, Int.reduceLE, Int.reduceEq, Int.reduceGT, Int.reduceGE, Int.reduceToNat, ↓reduceIte, List.reduceReplicate, Nat.reduceAdd, Nat.reduceSub, Nat.reduceMul, Nat.reduceLT, Nat.reduceLeDiff, Nat.reduceBEq, Nat.reduceEqDiff, e1, e7]
    refine amid (at_f (hr _) spc_len hu (o := 0) (x := I l[i].1) rfl fun ad1 => ?_)
    simp (config := { maxSteps := 4000000 }) only [↓sx0, ↓sx1, ↓sx2, ↓sx3, ↓sx4, ↓sx5, ↓sx6, sx0, sx1, sx2, sx3, sx4, sx5, sx6, tf22, ev3_hold, sxo, sxc, sxp, sxq, sxr, sxs, sxl, sxm, Int.reduceBEq, Int.reduceBNe, Int.reduceLT, Int.reduceLE, Int.reduceEq, Int.reduceGT, Int.reduceGE, Int.reduceToNat, ↓reduceIte, List.reduceReplicate, Nat.reduceAdd, Nat.reduceSub, Nat.reduceMul, Nat.reduceLT, Nat.reduceLeDiff, Nat.reduceBEq, Nat.reduceEqDiff, e1, e7]
    refine amid (at_f (hr _) spc_len hu (o := 1) (x := I l[i].2) rfl fun ad1 => ?_)
    simp (config := { maxSteps := 4000000 }) only [↓sx0, ↓sx1, ↓sx2, ↓sx3, ↓sx4, ↓sx5, ↓sx6, sx0, sx1, sx2, sx3, sx4, sx5, sx6, tf22, ev3_hold, sxo, sxc, sxp, sxq, sxr, sxs, sxl, sxm, Int.reduceBEq, Int.reduceBNe, Int.reduceLT, Int.reduceLE, Int.reduceEq, Int.reduceGT, Int.reduceGE, Int.reduceToNat, ↓reduceIte, List.reduceReplicate, Nat.reduceAdd, Nat.reduceSub, Nat.reduceMul, Nat.reduceLT, Nat.reduceLeDiff, Nat.reduceBEq, Nat.reduceEqDiff, e2, e2', e7]
    refine amid (at_f (hr _) spc_len hu (o := 1) (x := I l[i].2) rfl fun ad1 => ?_)
    by_cases hi0 : i = 0
    · have e4 : ((i : Int) > 0) = False := eq_false (by omega)
      have e4' : (0 < (i : Int)) = False := eq_false (by omega)
      simp (config := { maxSteps := 4000000 }) only [↓sx0, ↓sx1, ↓sx2, ↓sx3, ↓sx4, ↓sx5, ↓sx6, sx0, sx1, sx2, sx3, sx4, sx5, sx6, tf22, ev3_hold, sxo, sxc, sxp, sxq, sxr, sxs, sxl, sxm, Int.reduceBEq, Int.reduceBNe, Int.reduceLT, Int.reduceLE, Int.reduceEq, Int.reduceGT, Int.reduceGE, Int.reduceToNat, ↓reduceIte, List.reduceReplicate, Nat.reduceAdd, Nat.reduceSub, Nat.reduceMul, Nat.reduceLT, Nat.reduceLeDiff, Nat.reduceBEq, Nat.reduceEqDiff, e3, e3', e4, e4', e8]
      exact ⟨i + 1, _, rfl, HImp.refl _ _, ⟨by omega, rfl⟩, by omega⟩
    · have e4 : ((i : Int) > 0) = True := eq_true (by omega)
      have e4' : (0 < (i : Int)) = True := eq_true (by omega)
      have hq : l[i - 1]? = some l[i - 1] := List.getElem?_eq_getElem (by omega)
      have h5 := h4 _ (by omega) hq
      have h6 := ho _ _ hq
      have e5 : IntKind.i64.wrap ((i : Int) - 1) = ((i - 1 : Nat) : Int) := (wrap_id (by omega)).trans (by omega)
      have e6 : IntKind.i64.wrap (l[i - 1].2 + 1) = l[i - 1].2 + 1 := wrap_id (by omega)
      have e9 : (l[i].1 ≤ l[i - 1].2 + 1) = False := eq_false (by omega)
      simp (config := { maxSteps := 4000000 }) only [↓sx0, ↓sx1, ↓sx2, ↓sx3, ↓sx4, ↓sx5, ↓sx6, sx0, sx1, sx2, sx3, sx4, sx5, sx6, tf22, ev3_hold, sxo, sxc, sxp, sxq, sxr, sxs, sxl, sxm, Int.reduceBEq, Int.reduceBNe, Int.reduceLT, Int.reduceLE, Int.reduceEq, Int.reduceGT, Int.reduceGE, Int.reduceToNat, ↓reduceIte, List.reduceReplicate, Nat.reduceAdd, Nat.reduceSub, Nat.reduceMul, Nat.reduceLT, Nat.reduceLeDiff, Nat.reduceBEq, Nat.reduceEqDiff, e3, e3', e4, e4', e7]
      refine amid (at_f (hr _) spc_len hu (o := 0) (x := I l[i].1) rfl fun ad1 => ?_)
      simp (config := { maxSteps := 4000000 }) only [↓sx0, ↓sx1, ↓sx2, ↓sx3, ↓sx4, ↓sx5, ↓sx6, sx0, sx1, sx2, sx3, sx4, sx5, sx6, tf22, ev3_hold, sxo, sxc, sxp, sxq, sxr, sxs, sxl, sxm, Int.reduceBEq, Int.reduceBNe, Int.reduceLT, Int.reduceLE, Int.reduceEq, Int.reduceGT, Int.reduceGE, Int.reduceToNat, ↓reduceIte, List.reduceReplicate, Nat.reduceAdd, Nat.reduceSub, Nat.reduceMul, Nat.reduceLT, Nat.reduceLeDiff, Nat.reduceBEq, Nat.reduceEqDiff, e5, e7]
      refine (at_f (hr _) spc_len hq (o := 1) (x := I l[i - 1].2) rfl fun ad1 => ?_)
      simp (config := { maxSteps := 4000000 }) only [↓sx0, ↓sx1, ↓sx2, ↓sx3, ↓sx4, ↓sx5, ↓sx6, sx0, sx1, sx2, sx3, sx4, sx5, sx6, tf22, ev3_hold, sxo, sxc, sxp, sxq, sxr, sxs, sxl, sxm, Int.reduceBEq, Int.reduceBNe, Int.reduceLT, Int.reduceLE, Int.reduceEq, Int.reduceGT, Int.reduceGE, Int.reduceToNat, ↓reduceIte, List.reduceReplicate, Nat.reduceAdd, Nat.reduceSub, Nat.reduceMul, Nat.reduceLT, Nat.reduceLeDiff, Nat.reduceBEq, Nat.reduceEqDiff, e6, e9, e8]
      exact ⟨i + 1, _, rfl, HImp.refl _ _, ⟨by omega, rfl⟩, by omega⟩

end Go.Proofs.YtcnjhgnlcnmagaaDoor

namespace Go.Proofs.YtcnjhgnlcnmagaaDoor
open Go.RowKit Go.SX
set_option linter.unusedSimpArgs false
set_option linter.unusedVariables false

/-! ### The windows of some ticks: plain -/

theorem growL_nil (t : Int) : growL [] t = [(t, t)] := rfl

theorem growL_snoc (m : List (Int × Int)) (q : Int × Int) (t : Int) : growL (m ++ [q]) t = if q.2 = t - 1 then m ++ [(q.1, t)] else (m ++ [q]) ++ [(t, t)] := by
  unfold growL
  have h : (m ++ [q])[(m ++ [q]).length - 1]? = some q := by simp
  rw [h]
  simp only []
  split
  · simp
  · rfl

theorem ordP_nil (n : Int) : ordP [] n := fun i p h => by simp at h

theorem ordP_snoc {m : List (Int × Int)} {q : Int × Int} {b n : Int} (h : ordP m b) (hb : b ≤ n) (hl : ∀ r : Int × Int, m[m.length - 1]? = some r → r.2 + 1 < q.1) (h0 : 0 ≤ q.1) (h1 : q.1 ≤ q.2) (h2 : q.2 < n) : ordP (m ++ [q]) n := by
  intro i p hp
  by_cases hi : i < m.length
  · rw [List.getElem?_append_left hi] at hp
    obtain ⟨a1, a2, a3, a4⟩ := h i p hp
    refine ⟨a1, a2, by omega, fun r hr hq => ?_⟩
    rw [List.getElem?_append_left (by omega)] at hq
    exact a4 r hr hq
  · rw [List.getElem?_append_right (by omega)] at hp
    have hlt := (List.getElem?_eq_some_iff.1 hp).1
    simp only [List.length_cons, List.length_nil] at hlt
    have hi' : i = m.length := by omega
    subst hi'
    simp only [Nat.sub_self, List.getElem?_cons_zero, Option.some.injEq] at hp
    subst hp
    refine ⟨h0, h1, h2, fun r hr hq => ?_⟩
    rw [List.getElem?_append_left (by omega)] at hq
    exact hl r hq

theorem ordP_init {m : List (Int × Int)} {q : Int × Int} {n : Int} (h : ordP (m ++ [q]) n) : ordP m n ∧ (∀ r : Int × Int, m[m.length - 1]? = some r → r.2 + 1 < q.1) ∧ 0 ≤ q.1 ∧ q.1 ≤ q.2 ∧ q.2 < n := by
  have hq := h m.length q (by simp)
  refine ⟨fun i p hp => ?_, fun r hr => ?_, hq.1, hq.2.1, hq.2.2.1⟩
  · have hi := (List.getElem?_eq_some_iff.1 hp).1
    obtain ⟨a1, a2, a3, a4⟩ := h i p (by rw [List.getElem?_append_left hi]; exact hp)
    refine ⟨a1, a2, a3, fun r h0 hr => a4 r h0 ?_⟩
    rw [List.getElem?_append_left (by omega)]
    exact hr
  · have hi := (List.getElem?_eq_some_iff.1 hr).1
    exact hq.2.2.2 r (by omega) (by rw [List.getElem?_append_left hi]; exact hr)

theorem grow_ok {l : List (Int × Int)} {t : Nat} (h : ordP l t) : ordP (growL l t) ((t + 1 : Nat) : Int) ∧ ∀ x : Nat, (growL l t).any (inW x) = (l.any (inW x) || decide (x = t)) := by
  rcases List.eq_nil_or_concat l with rfl | ⟨m, q, rfl⟩
  · rw [growL_nil]
    refine ⟨ordP_snoc (m := []) (ordP_nil 0) (by omega) (by simp) (by simp) (by simp) (by simp only []; omega), fun x => ?_⟩
    simp only [List.any_cons, List.any_nil, Bool.or_false, Bool.false_or, inW]
    rw [Bool.eq_iff_iff]
    simp only [Bool.and_eq_true, decide_eq_true_eq]
    omega
  · rw [List.concat_eq_append] at h ⊢
    obtain ⟨h1, h2, h3, h4, h5⟩ := ordP_init h
    rw [growL_snoc]
    by_cases hq : q.2 = (t : Int) - 1
    · rw [if_pos hq]
      refine ⟨ordP_snoc h1 (by omega) h2 h3 (by simp only []; omega) (by simp only []; omega), fun x => ?_⟩
      rw [List.any_append, List.any_append]
      simp only [List.any_cons, List.any_nil, Bool.or_false, inW]
      rw [Bool.or_assoc]
      congr 1
      rw [Bool.eq_iff_iff]
      simp only [Bool.and_eq_true, Bool.or_eq_true, decide_eq_true_eq]
      omega
    · rw [if_neg hq]
      refine ⟨ordP_snoc h (by omega) (fun r hr => ?_) (by simp only []; omega) (by simp) (by simp only []; omega), fun x => ?_⟩
      · have : r = q := by simpa using hr.symm
        subst this
        simp only []
        omega
      · rw [List.any_append (xs := m ++ [q])]
        congr 1
        simp only [List.any_cons, List.any_nil, Bool.or_false, inW]
        rw [Bool.eq_iff_iff]
        simp only [Bool.and_eq_true, decide_eq_true_eq]
        omega

theorem winL_ok (p : Nat → Bool) : ∀ n, ordP (winL p n) n ∧ ∀ x : Nat, (winL p n).any (inW x) = (decide (x < n) && p x)
  | 0 => ⟨ordP_nil _, fun x => by simp [winL]⟩
  | n + 1 => by
    obtain ⟨h1, h2⟩ := winL_ok p n
    rw [winL]
    cases hp : p n with
    | true =>
      rw [if_pos rfl]
      obtain ⟨h3, h4⟩ := grow_ok h1
      refine ⟨h3, fun x => ?_⟩
      rw [h4, h2, Bool.eq_iff_iff]
      simp only [Bool.and_eq_true, Bool.or_eq_true, decide_eq_true_eq]
      constructor
      · rintro (⟨a, b⟩ | rfl)
        · exact ⟨by omega, b⟩
        · exact ⟨by omega, hp⟩
      · rintro ⟨a, b⟩
        by_cases h : x = n
        · exact .inr h
        · exact .inl ⟨by omega, b⟩
    | false =>
      rw [if_neg (by simp)]
      refine ⟨fun i q hq => ?_, fun x => ?_⟩
      · obtain ⟨a1, a2, a3, a4⟩ := h1 i q hq
        exact ⟨a1, a2, by omega, a4⟩
      · rw [h2, Bool.eq_iff_iff]
        simp only [Bool.and_eq_true, decide_eq_true_eq]
        constructor
        · rintro ⟨a, b⟩
          exact ⟨by omega, b⟩
        · rintro ⟨a, b⟩
          refine ⟨?_, b⟩
          by_cases h : x = n
          · subst h
            rw [hp] at b
            cases b
          · omega

end Go.Proofs.YtcnjhgnlcnmagaaDoor

