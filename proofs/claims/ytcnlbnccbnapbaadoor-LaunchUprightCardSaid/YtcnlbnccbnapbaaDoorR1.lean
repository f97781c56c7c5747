/- Parts of a proof: the symbolic walk and what it shows of single functions. -/
import Derived.Test.YtcnlbnccbnapbaaDoorP1
set_option linter.all false
namespace Go.Proofs.YtcnlbnccbnapbaaDoor
open Go.RowKit Go.SX
set_option maxRecDepth 10000
set_option maxHeartbeats 0
set_option linter.unusedSimpArgs false
set_option linter.unusedVariables false
def ldc (x : Int × Int × Int) : List Value := [I x.1, I x.2.1, I x.2.2]
theorem ldc_len (x : Int × Int × Int) : (ldc x).length = 3 := rfl
theorem ldc_one (x : Int × Int × Int) : ∀ y ∈ ldc x, y.oneCell' = true := by simp [ldc, Value.oneCell']
def vL (x : Int × Int × Int) : Value := .agg (ldc x).toArray
theorem vL_inj (a b : Int × Int × Int) (h : vL a = vL b) : a = b := by
  simp only [vL, ldc, Value.agg.injEq] at h
  injection h with h
  simp only [List.cons.injEq, Value.int.injEq, true_and, and_true] at h
  exact Prod.ext h.1 (Prod.ext h.2.1 h.2.2)
theorem clv_inj (a b : Cls) (h : clv a = clv b) : a = b := by
  obtain ⟨a1, a2, a3, a4, a5, a6, a7⟩ := a
  obtain ⟨b1, b2, b3, b4, b5, b6, b7⟩ := b
  simp only [clv, Value.agg.injEq] at h
  injection h with h
  simp only [List.cons.injEq, Value.int.injEq, true_and, and_true] at h
  obtain ⟨rfl, rfl, rfl, rfl, rfl, rfl, rfl⟩ := h
  rfl
def badL (x : Int × Int × Int) : Bool := decide (x.1 < 0) || decide (x.1 > x.2.1) || decide (x.2.1 > 1000) || !inB x.2.2 0 50
theorem badL_iff (x : Int × Int × Int) : badL x = false ↔ 0 ≤ x.1 ∧ x.1 ≤ x.2.1 ∧ x.2.1 ≤ 1000 ∧ 0 ≤ x.2.2 ∧ x.2.2 ≤ 50 := by
  unfold badL
  rw [Bool.or_eq_false_iff, Bool.or_eq_false_iff, Bool.or_eq_false_iff, decide_eq_false_iff_not, decide_eq_false_iff_not, decide_eq_false_iff_not, Bool.not_eq_false', inB_iff]
  omega
def detL : Nat → List Value → Option Value
  | 30, [.agg ⟨[.int .i64 x1, .int .i64 x2, .int .i64 x3, .int .i64 x4, .int .i64 x5, .int .i64 x6, .int .i64 x7]⟩] => some (I (if clsB ⟨x1, x2, x3, x4, x5, x6, x7⟩ then 0 else 50))
  | 31, [.agg ⟨[.int .i64 x1, .int .i64 x2, .int .i64 x3, .int .i64 x4, .int .i64 x5, .int .i64 x6, .int .i64 x7]⟩] => some (I (if clsB ⟨x1, x2, x3, x4, x5, x6, x7⟩ then 0 else 50))
  | g, xs => detQ g xs
theorem detL_ok (w0 : World) (X : Nat → Prop) : DetFn Tryd.prog ⟨w0, X⟩ detL := by
  intro g args v h w hk
  unfold detL at h
  split at h
  · cases h
    exact det_of_fn (check5_fn w ⟨_, _, _, _, _, _, _⟩)
  · cases h
    exact det_of_fn (rcheck5_fn w ⟨_, _, _, _, _, _, _⟩)
  · exact detQ_ok w0 X _ _ _ h w hk
theorem detL_eq : (∀ n l h : Int, detL 46 [I n, I l, I h] = some (.bool (inB n l h))) ∧ (∀ n l h : Int, detL 60 [I n, I l, I h] = some (.bool (inB n l h))) ∧
    (∀ x1 x2 x3 x4 x5 x6 x7 : Int, detL 30 [.agg #[I x1, I x2, I x3, I x4, I x5, I x6, I x7]] = some (I (if clsB ⟨x1, x2, x3, x4, x5, x6, x7⟩ then 0 else 50))) ∧
    (∀ x1 x2 x3 x4 x5 x6 x7 : Int, detL 31 [.agg #[I x1, I x2, I x3, I x4, I x5, I x6, I x7]] = some (I (if clsB ⟨x1, x2, x3, x4, x5, x6, x7⟩ then 0 else 50))) := ⟨fun _ _ _ => rfl, fun _ _ _ => rfl, fun _ _ _ _ _ _ _ => rfl, fun _ _ _ _ _ _ _ => rfl⟩
theorem badL_fn (w : World) (x : Int × Int × Int) : SX.Fn Tryd.prog 98 [vL x] w (fun _ => False) fun v N => v = .bool (badL x) := by
  unfold vL ldc
  refine walk [] [] (detL_ok _ _) Tryd.func98 rfl Tryd.ntmps98 res98 (by kernel_rfl) no_facts ?_
  simp (config := { maxSteps := 4000000 }) only [↓sx0, ↓sx1, ↓sx2, ↓sx3, ↓sx4, ↓sx5, ↓sx6, sx0, sx1, sx2, sx3, sx4, sx5, sx6, tf98, ev3_hold, sxo, sxc, sxp, sxq, sxr, sxs, sxl, sxm, Int.reduceBEq, Int.reduceBNe, Int.reduceLT, Int.reduceLE, Int.reduceEq, Int.reduceGT, Int.reduceGE, Int.reduceToNat, ↓reduceIte, List.reduceReplicate, Nat.reduceAdd, Nat.reduceSub, Nat.reduceMul, Nat.reduceLT, Nat.reduceLeDiff, Nat.reduceBEq, Nat.reduceEqDiff, detL_eq]
  unfold badL
  by_cases h1 : x.1 < 0 <;> by_cases h2 : x.1 > x.2.1 <;> by_cases h3 : x.2.1 > 1000 <;> simp [h1, h2, h3]
def badC (b : Cls) : Bool := !clsB b
theorem badC_fn (w : World) (b : Cls) : SX.Fn Tryd.prog 67 [clv b] w (fun _ => False) fun v N => v = .bool (badC b) := by
  unfold badC
  cases h : clsB b with
  | true =>
    unfold clv
    refine walk [] [] (detL_ok _ _) Tryd.func67 rfl Tryd.ntmps67 res67 (by kernel_rfl) no_facts ?_
    simp (config := { maxSteps := 4000000 }) only [↓sx0, ↓sx1, ↓sx2, ↓sx3, ↓sx4, ↓sx5, ↓sx6, sx0, sx1, sx2, sx3, sx4, sx5, sx6, tf67, ev3_hold, sxo, sxc, sxp, sxq, sxr, sxs, sxl, sxm, Int.reduceBEq, Int.reduceBNe, Int.reduceLT, Int.reduceLE, Int.reduceEq, Int.reduceGT, Int.reduceGE, Int.reduceToNat, ↓reduceIte, List.reduceReplicate, Nat.reduceAdd, Nat.reduceSub, Nat.reduceMul, Nat.reduceLT, Nat.reduceLeDiff, Nat.reduceBEq, Nat.reduceEqDiff, detL_eq, h]
    try simp
  | false =>
    unfold clv
    refine walk [] [] (detL_ok _ _) Tryd.func67 rfl Tryd.ntmps67 res67 (by kernel_rfl) no_facts ?_
    simp (config := { maxSteps := 4000000 }) only [↓sx0, ↓sx1, ↓sx2, ↓sx3, ↓sx4, ↓sx5, ↓sx6, sx0, sx1, sx2, sx3, sx4, sx5, sx6, tf67, ev3_hold, sxo, sxc, sxp, sxq, sxr, sxs, sxl, sxm, Int.reduceBEq, Int.reduceBNe, Int.reduceLT, Int.reduceLE, Int.reduceEq, Int.reduceGT, Int.reduceGE, Int.reduceToNat, ↓reduceIte, List.reduceReplicate, Nat.reduceAdd, Nat.reduceSub, Nat.reduceMul, Nat.reduceLT, Nat.reduceLeDiff, Nat.reduceBEq, Nat.reduceEqDiff, detL_eq, h]
    try simp
theorem tells_badL (w : World) : Tells w (fun _ => False) vL 98 [] badL := ⟨Tryd.call98, fun w' _ a => det_of_fn (badL_fn w' a)⟩
theorem tells_badC (w : World) : Tells w (fun _ => False) clv 67 [] badC := ⟨Tryd.call67, fun w' _ a => det_of_fn (badC_fn w' a)⟩
theorem indexL_fn (w : World) (v : Value) (l : List (Int × Int × Int)) (g : Nat) (cap : List Value) (p : Int × Int × Int → Bool) (hs : Sl w v 3 (cat ldc l)) (hb : l.length ≤ 1000) (hp : Tells w (fun _ => False) vL g cap p) :
    SX.Fn Tryd.prog 113 [v, .func (.func g) [].toArray cap.toArray] w (fun _ => False) fun r N => ∃ n : Int, r = I n ∧ decide (n ≥ 0) = l.any p := by
  obtain ⟨a, n, c, rfl⟩ := hs.shape
  have hn := hs.le ldc_len (by omega)
  have hr := hs.rd0
  have hT := hp.1
  have hd := fun m => detP_eq vL_inj g cap p m
  refine walk [] [] (detP_ok vL_inj hp) Tryd.func113 rfl Tryd.ntmps113 res113 (by kernel_rfl) no_facts ?_
  simp (config := { maxSteps := 4000000 }) only [↓sx0, ↓sx1, ↓sx2, ↓sx3, ↓sx4, ↓sx5, ↓sx6, sx0, sx1, sx2, sx3, sx4, sx5, sx6, tf113, ev3_hold, sxo, sxc, sxp, sxq, sxr, sxs, sxl, sxm, Int.reduceBEq, Int.reduceBNe, Int.reduceLT, Int.reduceLE, Int.reduceEq, Int.reduceGT, Int.reduceGE, Int.reduceToNat, ↓reduceIte, List.reduceReplicate, Nat.reduceAdd, Nat.reduceSub, Nat.reduceMul, Nat.reduceLT, Nat.reduceLeDiff, Nat.reduceBEq, Nat.reduceEqDiff]
  refine loop_const [(4, 5), (8, 18)] (fun k : Nat => [(8, I k)]) (fun k H1 => H1 = [] ∧ k ≤ n ∧ l.any p = (l.drop k).any p) (fun k => n - k) 0 ?_ ⟨rfl, Nat.zero_le _, rfl⟩ ?_
  · simp (config := { maxSteps := 4000000 }) only [↓sx0, ↓sx1, ↓sx2, ↓sx3, ↓sx4, ↓sx5, ↓sx6, sx0, sx1, sx2, sx3, sx4, sx5, sx6, tf113, ev3_hold, sxo, sxc, sxp, sxq, sxr, sxs, sxl, sxm, Int.reduceBEq, Int.reduceBNe, Int.reduceLT, Int.reduceLE, Int.reduceEq, Int.reduceGT, Int.reduceGE, Int.reduceToNat, ↓reduceIte, List.reduceReplicate, Nat.reduceAdd, Nat.reduceSub, Nat.reduceMul, Nat.reduceLT, Nat.reduceLeDiff, Nat.reduceBEq, Nat.reduceEqDiff]
    simp
  · rintro k H1 g1 ⟨rfl, hk, ht⟩
    by_cases hkn : k = n
    · subst hkn
      have e7 : ((k : Int) < (k : Int)) = False := eq_false (by omega)
      simp (config := { maxSteps := 4000000 }) only [↓sx0, ↓sx1, ↓sx2, ↓sx3, ↓sx4, ↓sx5, ↓sx6, sx0, sx1, sx2, sx3, sx4, sx5, sx6, tf113, ev3_hold, sxo, sxc, sxp, sxq, sxr, sxs, sxl, sxm, Int.reduceBEq, Int.reduceBNe, Int.reduceLT, Int.reduceLE, Int.reduceEq, Int.reduceGT, Int.reduceGE, Int.reduceToNat, ↓reduceIte, List.reduceReplicate, Nat.reduceAdd, Nat.reduceSub, Nat.reduceMul, Nat.reduceLT, Nat.reduceLeDiff, Nat.reduceBEq, Nat.reduceEqDiff, e7]
      refine ⟨-1, rfl, ?_⟩
      rw [ht, List.drop_of_length_le (by omega)]
      rfl
    · have e7 : ((k : Int) < (n : Int)) = True := eq_true (by omega)
      have e2 : wr (k + 1) = ((k + 1 : Nat) : Int) := (wrap_id (by omega)).trans (by omega)
      have hkl : k < l.length := by omega
      have hdk := hd l[k]
      rw [vL] at hdk
      simp (config := { maxSteps := 4000000 }) only [↓sx0, ↓sx1, ↓sx2, ↓sx3, ↓sx4, ↓sx5, ↓sx6, sx0, sx1, sx2, sx3, sx4, sx5, sx6, tf113, ev3_hold, sxo, sxc, sxp, sxq, sxr, sxs, sxl, sxm, Int.reduceBEq, Int.reduceBNe, Int.reduceLT, Int.reduceLE, Int.reduceEq, Int.reduceGT, Int.reduceGE, Int.reduceToNat, ↓reduceIte, List.reduceReplicate, Nat.reduceAdd, Nat.reduceSub, Nat.reduceMul, Nat.reduceLT, Nat.reduceLeDiff, Nat.reduceBEq, Nat.reduceEqDiff, e7]
      refine amid (at_n (hr _) ldc_len (by omega) (List.getElem?_eq_getElem hkl) fun ad => ?_)
      rw [List.drop_eq_getElem_cons hkl, List.any_cons] at ht
      simp (config := { maxSteps := 4000000 }) only [↓sx0, ↓sx1, ↓sx2, ↓sx3, ↓sx4, ↓sx5, ↓sx6, sx0, sx1, sx2, sx3, sx4, sx5, sx6, tf113, ev3_hold, sxo, sxc, sxp, sxq, sxr, sxs, sxl, sxm, Int.reduceBEq, Int.reduceBNe, Int.reduceLT, Int.reduceLE, Int.reduceEq, Int.reduceGT, Int.reduceGE, Int.reduceToNat, ↓reduceIte, List.reduceReplicate, Nat.reduceAdd, Nat.reduceSub, Nat.reduceMul, Nat.reduceLT, Nat.reduceLeDiff, Nat.reduceBEq, Nat.reduceEqDiff, e2, hT, hdk]
      refine ⟨fun h1 => ⟨k, rfl, ?_⟩, fun h1 => ⟨k + 1, _, rfl, HImp.refl _ _, ⟨rfl, by omega, ?_⟩, by omega⟩⟩
      · rw [ht, h1, Bool.true_or, decide_eq_true_iff]
        omega
      · rw [ht, h1, Bool.false_or]
theorem indexC_fn (w : World) (v : Value) (l : List Cls) (g : Nat) (cap : List Value) (p : Cls → Bool) (hs : Sl w v 7 (cat clc l)) (hb : l.length ≤ 1000) (hp : Tells w (fun _ => False) clv g cap p) :
    SX.Fn Tryd.prog 95 [v, .func (.func g) [].toArray cap.toArray] w (fun _ => False) fun r N => ∃ n : Int, r = I n ∧ decide (n ≥ 0) = l.any p := by
  obtain ⟨a, n, c, rfl⟩ := hs.shape
  have hn := hs.le clc_len (by omega)
  have hr := hs.rd0
  have hT := hp.1
  have hd := fun m => detP_eq clv_inj g cap p m
  refine walk [] [] (detP_ok clv_inj hp) Tryd.func95 rfl Tryd.ntmps95 res95 (by kernel_rfl) no_facts ?_
  simp (config := { maxSteps := 4000000 }) only [↓sx0, ↓sx1, ↓sx2, ↓sx3, ↓sx4, ↓sx5, ↓sx6, sx0, sx1, sx2, sx3, sx4, sx5, sx6, tf95, ev3_hold, sxo, sxc, sxp, sxq, sxr, sxs, sxl, sxm, Int.reduceBEq, Int.reduceBNe, Int.reduceLT, Int.reduceLE, Int.reduceEq, Int.reduceGT, Int.reduceGE, Int.reduceToNat, ↓reduceIte, List.reduceReplicate, Nat.reduceAdd, Nat.reduceSub, Nat.reduceMul, Nat.reduceLT, Nat.reduceLeDiff, Nat.reduceBEq, Nat.reduceEqDiff]
  refine loop_const [(4, 5), (8, 18)] (fun k : Nat => [(8, I k)]) (fun k H1 => H1 = [] ∧ k ≤ n ∧ l.any p = (l.drop k).any p) (fun k => n - k) 0 ?_ ⟨rfl, Nat.zero_le _, rfl⟩ ?_
  · simp (config := { maxSteps := 4000000 }) only [↓sx0, ↓sx1, ↓sx2, ↓sx3, ↓sx4, ↓sx5, ↓sx6, sx0, sx1, sx2, sx3, sx4, sx5, sx6, tf95, ev3_hold, sxo, sxc, sxp, sxq, sxr, sxs, sxl, sxm, Int.reduceBEq, Int.reduceBNe, Int.reduceLT, Int.reduceLE, Int.reduceEq, Int.reduceGT, Int.reduceGE, Int.reduceToNat, ↓reduceIte, List.reduceReplicate, Nat.reduceAdd, Nat.reduceSub, Nat.reduceMul, Nat.reduceLT, Nat.reduceLeDiff, Nat.reduceBEq, Nat.reduceEqDiff]
    simp
  · rintro k H1 g1 ⟨rfl, hk, ht⟩
    by_cases hkn : k = n
    · subst hkn
      have e7 : ((k : Int) < (k : Int)) = False := eq_false (by omega)
      simp (config := { maxSteps := 4000000 }) only [↓sx0, ↓sx1, ↓sx2, ↓sx3, ↓sx4, ↓sx5, ↓sx6, sx0, sx1, sx2, sx3, sx4, sx5, sx6, tf95, ev3_hold, sxo, sxc, sxp, sxq, sxr, sxs, sxl, sxm, Int.reduceBEq, Int.reduceBNe, Int.reduceLT, Int.reduceLE, Int.reduceEq, Int.reduceGT, Int.reduceGE, Int.reduceToNat, ↓reduceIte, List.reduceReplicate, Nat.reduceAdd, Nat.reduceSub, Nat.reduceMul, Nat.reduceLT, Nat.reduceLeDiff, Nat.reduceBEq, Nat.reduceEqDiff, e7]
      refine ⟨-1, rfl, ?_⟩
      rw [ht, List.drop_of_length_le (by omega)]
      rfl
    · have e7 : ((k : Int) < (n : Int)) = True := eq_true (by omega)
      have e2 : wr (k + 1) = ((k + 1 : Nat) : Int) := (wrap_id (by omega)).trans (by omega)
      have hkl : k < l.length := by omega
      have hdk := hd l[k]
      have hcl : Value.agg (clc l[k]).toArray = clv l[k] := rfl
      simp (config := { maxSteps := 4000000 }) only [↓sx0, ↓sx1, ↓sx2, ↓sx3, ↓sx4, ↓sx5, ↓sx6, sx0, sx1, sx2, sx3, sx4, sx5, sx6, tf95, ev3_hold, sxo, sxc, sxp, sxq, sxr, sxs, sxl, sxm, Int.reduceBEq, Int.reduceBNe, Int.reduceLT, Int.reduceLE, Int.reduceEq, Int.reduceGT, Int.reduceGE, Int.reduceToNat, ↓reduceIte, List.reduceReplicate, Nat.reduceAdd, Nat.reduceSub, Nat.reduceMul, Nat.reduceLT, Nat.reduceLeDiff, Nat.reduceBEq, Nat.reduceEqDiff, e7]
      refine amid (at_n (hr _) clc_len (by omega) (List.getElem?_eq_getElem hkl) fun ad => ?_)
      rw [List.drop_eq_getElem_cons hkl, List.any_cons] at ht
      simp (config := { maxSteps := 4000000 }) only [↓sx0, ↓sx1, ↓sx2, ↓sx3, ↓sx4, ↓sx5, ↓sx6, sx0, sx1, sx2, sx3, sx4, sx5, sx6, tf95, ev3_hold, sxo, sxc, sxp, sxq, sxr, sxs, sxl, sxm, Int.reduceBEq, Int.reduceBNe, Int.reduceLT, Int.reduceLE, Int.reduceEq, Int.reduceGT, Int.reduceGE, Int.reduceToNat, ↓reduceIte, List.reduceReplicate, Nat.reduceAdd, Nat.reduceSub, Nat.reduceMul, Nat.reduceLT, Nat.reduceLeDiff, Nat.reduceBEq, Nat.reduceEqDiff, e2, hT, hcl, hdk]
      refine ⟨fun h1 => ⟨k, rfl, ?_⟩, fun h1 => ⟨k + 1, _, rfl, HImp.refl _ _, ⟨rfl, by omega, ?_⟩, by omega⟩⟩
      · rw [ht, h1, Bool.true_or, decide_eq_true_iff]
        omega
      · rw [ht, h1, Bool.false_or]
theorem containsL_fn (w : World) (v : Value) (l : List (Int × Int × Int)) (g : Nat) (cap : List Value) (p : Int × Int × Int → Bool) (hs : Sl w v 3 (cat ldc l)) (hb : l.length ≤ 1000) (hp : Tells w (fun _ => False) vL g cap p) :
    SX.Fn Tryd.prog 99 [v, .func (.func g) [].toArray cap.toArray] w (fun _ => False) fun r N => r = .bool (l.any p) := by
  obtain ⟨a, n, c, rfl⟩ := hs.shape
  refine walk [] [] (det0_ok _ _) Tryd.func99 rfl Tryd.ntmps99 res99 (by kernel_rfl) no_facts ?_
  simp (config := { maxSteps := 4000000 }) only [↓sx0, ↓sx1, ↓sx2, ↓sx3, ↓sx4, ↓sx5, ↓sx6, sx0, sx1, sx2, sx3, sx4, sx5, sx6, tf99, ev3_hold, sxo, sxc, sxp, sxq, sxr, sxs, sxl, sxm, Int.reduceBEq, Int.reduceBNe, Int.reduceLT, Int.reduceLE, Int.reduceEq, Int.reduceGT, Int.reduceGE, Int.reduceToNat, ↓reduceIte, List.reduceReplicate, Nat.reduceAdd, Nat.reduceSub, Nat.reduceMul, Nat.reduceLT, Nat.reduceLeDiff, Nat.reduceBEq, Nat.reduceEqDiff, det0]
  refine CallOb.pure (fun w' hp' => indexL_fn w' _ l g cap p (hs.hp (fun _ _ => id) hp') hb ⟨hp.1, fun w2 hk => hp.2 w2 (hk.into hp'.ext fun _ h => h.elim)⟩) ?_
  rintro r N ⟨m, rfl, hm⟩
  rw [← hm]
  simp (config := { maxSteps := 4000000 }) only [↓sx0, ↓sx1, ↓sx2, ↓sx3, ↓sx4, ↓sx5, ↓sx6, sx0, sx1, sx2, sx3, sx4, sx5, sx6, tf99, ev3_hold, sxo, sxc, sxp, sxq, sxr, sxs, sxl, sxm, Int.reduceBEq, Int.reduceBNe, Int.reduceLT, Int.reduceLE, Int.reduceEq, Int.reduceGT, Int.reduceGE, Int.reduceToNat, ↓reduceIte, List.reduceReplicate, Nat.reduceAdd, Nat.reduceSub, Nat.reduceMul, Nat.reduceLT, Nat.reduceLeDiff, Nat.reduceBEq, Nat.reduceEqDiff]
theorem containsC_fn (w : World) (v : Value) (l : List Cls) (g : Nat) (cap : List Value) (p : Cls → Bool) (hs : Sl w v 7 (cat clc l)) (hb : l.length ≤ 1000) (hp : Tells w (fun _ => False) clv g cap p) :
    SX.Fn Tryd.prog 66 [v, .func (.func g) [].toArray cap.toArray] w (fun _ => False) fun r N => r = .bool (l.any p) := by
  obtain ⟨a, n, c, rfl⟩ := hs.shape
  refine walk [] [] (det0_ok _ _) Tryd.func66 rfl Tryd.ntmps66 res66 (by kernel_rfl) no_facts ?_
  simp (config := { maxSteps := 4000000 }) only [↓sx0, ↓sx1, ↓sx2, ↓sx3, ↓sx4, ↓sx5, ↓sx6, sx0, sx1, sx2, sx3, sx4, sx5, sx6, tf66, ev3_hold, sxo, sxc, sxp, sxq, sxr, sxs, sxl, sxm, Int.reduceBEq, Int.reduceBNe, Int.reduceLT, Int.reduceLE, Int.reduceEq, Int.reduceGT, Int.reduceGE, Int.reduceToNat, ↓reduceIte, List.reduceReplicate, Nat.reduceAdd, Nat.reduceSub, Nat.reduceMul, Nat.reduceLT, Nat.reduceLeDiff, Nat.reduceBEq, Nat.reduceEqDiff, det0]
  refine CallOb.pure (fun w' hp' => indexC_fn w' _ l g cap p (hs.hp (fun _ _ => id) hp') hb ⟨hp.1, fun w2 hk => hp.2 w2 (hk.into hp'.ext fun _ h => h.elim)⟩) ?_
  rintro r N ⟨m, rfl, hm⟩
  rw [← hm]
  simp (config := { maxSteps := 4000000 }) only [↓sx0, ↓sx1, ↓sx2, ↓sx3, ↓sx4, ↓sx5, ↓sx6, sx0, sx1, sx2, sx3, sx4, sx5, sx6, tf66, ev3_hold, sxo, sxc, sxp, sxq, sxr, sxs, sxl, sxm, Int.reduceBEq, Int.reduceBNe, Int.reduceLT, Int.reduceLE, Int.reduceEq, Int.reduceGT, Int.reduceGE, Int.reduceToNat, ↓reduceIte, List.reduceReplicate, Nat.reduceAdd, Nat.reduceSub, Nat.reduceMul, Nat.reduceLT, Nat.reduceLeDiff, Nat.reduceBEq, Nat.reduceEqDiff]
def sumB {α : Type} (f : α → Int) : List α → Int
  | [] => 0
  | x :: l => f x + sumB f l
theorem sumB_append {α : Type} (f : α → Int) (l m : List α) : sumB f (l ++ m) = sumB f l + sumB f m := by
  induction l with
  | nil => simp [sumB]
  | cons x l ih => simp only [List.cons_append, sumB, ih]; omega
theorem sumB_take {α : Type} (f : α → Int) {l : List α} {i : Nat} {x : α} (h : l[i]? = some x) : sumB f (l.take (i + 1)) = sumB f (l.take i) + f x := by
  rw [List.take_succ, h, sumB_append]
  simp [sumB]
theorem sumB_bound {α : Type} (f : α → Int) (M : Nat) (l : List α) (h : ∀ x ∈ l, 0 ≤ f x ∧ f x ≤ M) : 0 ≤ sumB f l ∧ sumB f l ≤ ((l.length * M : Nat) : Int) := by
  induction l with
  | nil => simp [sumB]
  | cons x l ih =>
    have h1 := h x List.mem_cons_self
    have h2 := ih fun y hy => h y (List.mem_cons_of_mem _ hy)
    simp only [sumB, List.length_cons, Nat.succ_mul]
    omega
def lowM (x : Int × Int × Int) : Int := x.1 * x.2.2
def highM (x : Int × Int × Int) : Int := x.2.1 * x.2.2
theorem goodM {x : Int × Int × Int} (h : badL x = false) : (0 ≤ lowM x ∧ lowM x ≤ (50000 : Nat)) ∧ (0 ≤ highM x ∧ highM x ≤ (50000 : Nat)) ∧ lowM x ≤ highM x := by
  have h := (badL_iff x).1 h
  unfold lowM highM
  refine ⟨⟨Int.mul_nonneg h.1 h.2.2.2.1, Int.le_trans (Int.mul_le_mul (by omega : x.1 ≤ 1000) (by omega : x.2.2 ≤ 50) (by omega) (by omega)) (by decide)⟩, ⟨Int.mul_nonneg (by omega) h.2.2.2.1, Int.le_trans (Int.mul_le_mul (by omega : x.2.1 ≤ 1000) (by omega : x.2.2 ≤ 50) (by omega) (by omega)) (by decide)⟩, Int.mul_le_mul_of_nonneg_right h.2.1 h.2.2.2.1⟩
def loadE (b : Cls) (l : List (Int × Int × Int)) : Int := if clsB b then (if l.length > 10 then 2 else if l.any badL then 52 else 0) else 50
theorem loadE_zero {b : Cls} {l : List (Int × Int × Int)} (h : loadE b l = 0) : clsB b = true ∧ l.length ≤ 10 ∧ ∀ x ∈ l, badL x = false := by
  unfold loadE at h
  split at h
  · rename_i h1
    split at h
    · cases h
    · split at h
      · cases h
      · rename_i h2 h3
        refine ⟨h1, by omega, fun x hx => ?_⟩
        rw [Bool.not_eq_true, List.any_eq_false] at h3
        simpa using h3 x hx
  · cases h
theorem loaded_fn (w : World) (v : Value) (b : Cls) (l : List (Int × Int × Int)) (hs : Sl w v 3 (cat ldc l)) (hl : l.length ≤ 1000) :
    SX.Fn Tryd.prog 72 [clv b, v] w (fun _ => False) fun r N => r = I (loadE b l) := by
  obtain ⟨a, n, c, rfl⟩ := hs.shape
  have hn := hs.le ldc_len (by omega)
  subst hn
  have dn : ∀ xs, detL 99 xs = none := fun _ => rfl
  unfold loadE
  unfold clv
  cases h : clsB b with
  | false =>
    refine walk [] [] (detL_ok _ _) Tryd.func72 rfl Tryd.ntmps72 res72 (by kernel_rfl) no_facts ?_
    simp (config := { maxSteps := 4000000 }) only [↓sx0, ↓sx1, ↓sx2, ↓sx3, ↓sx4, ↓sx5, ↓sx6, sx0, sx1, sx2, sx3, sx4, sx5, sx6, tf72, ev3_hold, sxo, sxc, sxp, sxq, sxr, sxs, sxl, sxm, Int.reduceBEq, Int.reduceBNe, Int.reduceLT, Int.reduceLE, Int.reduceEq, Int.reduceGT, Int.reduceGE, Int.reduceToNat, ↓reduceIte, List.reduceReplicate, Nat.reduceAdd, Nat.reduceSub, Nat.reduceMul, Nat.reduceLT, Nat.reduceLeDiff, Nat.reduceBEq, Nat.reduceEqDiff, detL_eq, h]
  | true =>
  by_cases h2 : l.length > 10
  · have e1 : ((l.length : Int) > 10) = True := eq_true (by omega)
    rw [if_pos rfl, if_pos h2]
    refine walk [] [] (detL_ok _ _) Tryd.func72 rfl Tryd.ntmps72 res72 (by kernel_rfl) no_facts ?_
    simp (config := { maxSteps := 4000000 }) only [↓sx0, ↓sx1, ↓sx2, ↓sx3, ↓sx4, ↓sx5, ↓sx6, sx0, sx1, sx2, sx3, sx4, sx5, sx6, tf72, ev3_hold, sxo, sxc, sxp, sxq, sxr, sxs, sxl, sxm, Int.reduceBEq, Int.reduceBNe, Int.reduceLT, Int.reduceLE, Int.reduceEq, Int.reduceGT, Int.reduceGE, Int.reduceToNat, ↓reduceIte, List.reduceReplicate, Nat.reduceAdd, Nat.reduceSub, Nat.reduceMul, Nat.reduceLT, Nat.reduceLeDiff, Nat.reduceBEq, Nat.reduceEqDiff, detL_eq, h, e1]
  have e1 : ((l.length : Int) > 10) = False := eq_false (by omega)
  rw [if_pos rfl, if_neg h2]
  refine walk [] [] (detL_ok _ _) Tryd.func72 rfl Tryd.ntmps72 res72 (by kernel_rfl) no_facts ?_
  simp (config := { maxSteps := 4000000 }) only [↓sx0, ↓sx1, ↓sx2, ↓sx3, ↓sx4, ↓sx5, ↓sx6, sx0, sx1, sx2, sx3, sx4, sx5, sx6, tf72, ev3_hold, sxo, sxc, sxp, sxq, sxr, sxs, sxl, sxm, Int.reduceBEq, Int.reduceBNe, Int.reduceLT, Int.reduceLE, Int.reduceEq, Int.reduceGT, Int.reduceGE, Int.reduceToNat, ↓reduceIte, List.reduceReplicate, Nat.reduceAdd, Nat.reduceSub, Nat.reduceMul, Nat.reduceLT, Nat.reduceLeDiff, Nat.reduceBEq, Nat.reduceEqDiff, detL_eq, h, e1, dn]
  refine CallOb.pureH (fun w' hp => containsL_fn w' _ l _ [] badL (hs.hp (fun _ _ => id) hp) hl (tells_badL w')) ?_
  rintro r N rfl
  refine ⟨?_⟩
  cases hb : l.any badL with
  | true =>
    simp (config := { maxSteps := 4000000 }) only [↓sx0, ↓sx1, ↓sx2, ↓sx3, ↓sx4, ↓sx5, ↓sx6, sx0, sx1, sx2, sx3, sx4, sx5, sx6, tf72, ev3_hold, sxo, sxc, sxp, sxq, sxr, sxs, sxl, sxm, Int.reduceBEq, Int.reduceBNe, Int.reduceLT, Int.reduceLE, Int.reduceEq, Int.reduceGT, Int.reduceGE, Int.reduceToNat, ↓reduceIte, List.reduceReplicate, Nat.reduceAdd, Nat.reduceSub, Nat.reduceMul, Nat.reduceLT, Nat.reduceLeDiff, Nat.reduceBEq, Nat.reduceEqDiff]
  | false =>
    simp (config := { maxSteps := 4000000 }) only [↓sx0, ↓sx1, ↓sx2, ↓sx3, ↓sx4, ↓sx5, ↓sx6, sx0, sx1, sx2, sx3, sx4, sx5, sx6, tf72, ev3_hold, sxo, sxc, sxp, sxq, sxr, sxs, sxl, sxm, Int.reduceBEq, Int.reduceBNe, Int.reduceLT, Int.reduceLE, Int.reduceEq, Int.reduceGT, Int.reduceGE, Int.reduceToNat, ↓reduceIte, List.reduceReplicate, Nat.reduceAdd, Nat.reduceSub, Nat.reduceMul, Nat.reduceLT, Nat.reduceLeDiff, Nat.reduceBEq, Nat.reduceEqDiff]
theorem ld_cell2 {w0 : Base} {H : List HO} {b o1 o2 : Nat} {T : TypeId} {cs : List Value} {v : Value} {K : SV → Prop} (h : HO.cells b T cs ∈ H) (hv : cs[o1 + o2]? = some v) (hK : K (.v v)) : hold (LdOb w0 H (((⟨b, 0, none⟩ : Addr).add o1).add o2) none K) ⟨0⟩ := by
  rw [add_add]
  exact ld_cella h hv hK
theorem moments_fn (w : World) (v : Value) (l : List (Int × Int × Int)) (hs : Sl w v 3 (cat ldc l)) (hl : l.length ≤ 1000) (hg : ∀ x ∈ l, badL x = false) :
    SX.Fn Tryd.prog 73 [v] w (fun _ => False) fun r N => r = .tuple #[I (sumB lowM l), I (sumB highM l)] := by
  obtain ⟨a, n, c, rfl⟩ := hs.shape
  have hn := hs.le ldc_len (by omega)
  subst hn
  have hr := hs.rd0
  have b1 := fun i => sumB_bound lowM 50000 (l.take i) fun x hx => (goodM (hg x (List.mem_of_mem_take hx))).1
  have b2 := fun i => sumB_bound highM 50000 (l.take i) fun x hx => (goodM (hg x (List.mem_of_mem_take hx))).2.1
  have b3 : ∀ i, (l.take i).length * 50000 ≤ 50000000 := fun i => by
    rw [List.length_take]
    have : min i l.length ≤ 1000 := by omega
    omega
  obtain ⟨A, hA⟩ : ∃ A : Nat → Int, ∀ i, sumB lowM (l.take i) = A i := ⟨_, fun _ => rfl⟩
  obtain ⟨B, hB⟩ : ∃ B : Nat → Int, ∀ i, sumB highM (l.take i) = B i := ⟨_, fun _ => rfl⟩
  have hAs : ∀ i x, l[i]? = some x → A (i + 1) = A i + x.1 * x.2.2 := fun i x h => by rw [← hA, ← hA, sumB_take lowM h]; rfl
  have hBs : ∀ i x, l[i]? = some x → B (i + 1) = B i + x.2.1 * x.2.2 := fun i x h => by rw [← hB, ← hB, sumB_take highM h]; rfl
  have hA0 : A 0 = 0 := by rw [← hA]; rfl
  have hB0 : B 0 = 0 := by rw [← hB]; rfl
  have hAl : A l.length = sumB lowM l := by rw [← hA, List.take_length]
  have hBl : B l.length = sumB highM l := by rw [← hB, List.take_length]
  simp only [hA] at b1
  simp only [hB] at b2
  rw [← hAl, ← hBl]
  refine walk [5] [] (det0_ok _ _) Tryd.func73 rfl Tryd.ntmps73 res73 (by kernel_rfl) no_facts ?_
  simp (config := { maxSteps := 4000000 }) only [↓sx0, ↓sx1, ↓sx2, ↓sx3, ↓sx4, ↓sx5, ↓sx6, sx0, sx1, sx2, sx3, sx4, sx5, sx6, tf73, ev3_hold, sxo, sxc, sxp, sxq, sxr, sxs, sxl, sxm, Int.reduceBEq, Int.reduceBNe, Int.reduceLT, Int.reduceLE, Int.reduceEq, Int.reduceGT, Int.reduceGE, Int.reduceToNat, ↓reduceIte, List.reduceReplicate, Nat.reduceAdd, Nat.reduceSub, Nat.reduceMul, Nat.reduceLT, Nat.reduceLeDiff, Nat.reduceBEq, Nat.reduceEqDiff]
  refine loop_constH [] (HImp.refl _ _) [(2, 3), (5, 5), (8, 28)] (fun i : Nat => [(2, I (A i)), (3, I (B i)), (8, I i)]) (fun i H1 => i ≤ l.length ∧ H1 = []) (fun i => l.length - i) 0 ?_ ⟨Nat.zero_le _, rfl⟩ ?_
  · rw [hA0, hB0]
    simp (config := { maxSteps := 4000000 }) only [↓sx0, ↓sx1, ↓sx2, ↓sx3, ↓sx4, ↓sx5, ↓sx6, sx0, sx1, sx2, sx3, sx4, sx5, sx6, tf73, ev3_hold, sxo, sxc, sxp, sxq, sxr, sxs, sxl, sxm, Int.reduceBEq, Int.reduceBNe, Int.reduceLT, Int.reduceLE, Int.reduceEq, Int.reduceGT, Int.reduceGE, Int.reduceToNat, ↓reduceIte, List.reduceReplicate, Nat.reduceAdd, Nat.reduceSub, Nat.reduceMul, Nat.reduceLT, Nat.reduceLeDiff, Nat.reduceBEq, Nat.reduceEqDiff]
    try simp
  rintro i H1 g1 ⟨hi, rfl⟩
  by_cases hin : i = l.length
  · have e7 : ((i : Int) < (l.length : Int)) = False := eq_false (by omega)
    subst hin
    refine ⟨?_⟩
    simp (config := { maxSteps := 4000000 }) only [↓sx0, ↓sx1, ↓sx2, ↓sx3, ↓sx4, ↓sx5, ↓sx6, sx0, sx1, sx2, sx3, sx4, sx5, sx6, tf73, ev3_hold, sxo, sxc, sxp, sxq, sxr, sxs, sxl, sxm, Int.reduceBEq, Int.reduceBNe, Int.reduceLT, Int.reduceLE, Int.reduceEq, Int.reduceGT, Int.reduceGE, Int.reduceToNat, ↓reduceIte, List.reduceReplicate, Nat.reduceAdd, Nat.reduceSub, Nat.reduceMul, Nat.reduceLT, Nat.reduceLeDiff, Nat.reduceBEq, Nat.reduceEqDiff, e7]
  have e7 : ((i : Int) < (l.length : Int)) = True := eq_true (by omega)
  have e2 : wr (i + 1) = ((i + 1 : Nat) : Int) := (wrap_id (by omega)).trans (by omega)
  have hil : i < l.length := by omega
  have hu := List.getElem?_eq_getElem hil
  obtain ⟨x, hx⟩ : ∃ x, l[i] = x := ⟨_, rfl⟩
  rw [hx] at hu
  have hgx := goodM (hg x (by rw [← hx]; exact List.getElem_mem hil))
  unfold lowM highM at hgx
  have c1 := hAs i x hu
  have c2 := hBs i x hu
  have d1 := b1 i
  have d2 := b2 i
  have d3 := b3 i
  have w1 : wr (x.1 * x.2.2) = x.1 * x.2.2 := wrap_id (by omega)
  have w2 : wr (x.2.1 * x.2.2) = x.2.1 * x.2.2 := wrap_id (by omega)
  have w3 : wr (A i + x.1 * x.2.2) = A (i + 1) := by rw [c1]; exact wrap_id (by omega)
  have w4 : wr (B i + x.2.1 * x.2.2) = B (i + 1) := by rw [c2]; exact wrap_id (by omega)
  refine ⟨?_⟩
  simp (config := { maxSteps := 4000000 }) only [↓sx0, ↓sx1, ↓sx2, ↓sx3, ↓sx4, ↓sx5, ↓sx6, sx0, sx1, sx2, sx3, sx4, sx5, sx6, tf73, ev3_hold, sxo, sxc, sxp, sxq, sxr, sxs, sxl, sxm, Int.reduceBEq, Int.reduceBNe, Int.reduceLT, Int.reduceLE, Int.reduceEq, Int.reduceGT, Int.reduceGE, Int.reduceToNat, ↓reduceIte, List.reduceReplicate, Nat.reduceAdd, Nat.reduceSub, Nat.reduceMul, Nat.reduceLT, Nat.reduceLeDiff, Nat.reduceBEq, Nat.reduceEqDiff, e7]
  refine amid (at_n (hr _) ldc_len (by omega) hu fun ad => ?_)
  unfold ldc
  simp (config := { maxSteps := 4000000 }) only [↓sx0, ↓sx1, ↓sx2, ↓sx3, ↓sx4, ↓sx5, ↓sx6, sx0, sx1, sx2, sx3, sx4, sx5, sx6, tf73, ev3_hold, sxo, sxc, sxp, sxq, sxr, sxs, sxl, sxm, Int.reduceBEq, Int.reduceBNe, Int.reduceLT, Int.reduceLE, Int.reduceEq, Int.reduceGT, Int.reduceGE, Int.reduceToNat, ↓reduceIte, List.reduceReplicate, Nat.reduceAdd, Nat.reduceSub, Nat.reduceMul, Nat.reduceLT, Nat.reduceLeDiff, Nat.reduceBEq, Nat.reduceEqDiff]
  intro b1
  refine wr_cell (A := []) rfl (by simp) ?_
  simp (config := { maxSteps := 4000000 }) only [↓sx0, ↓sx1, ↓sx2, ↓sx3, ↓sx4, ↓sx5, ↓sx6, sx0, sx1, sx2, sx3, sx4, sx5, sx6, tf73, ev3_hold, sxo, sxc, sxp, sxq, sxr, sxs, sxl, sxm, Int.reduceBEq, Int.reduceBNe, Int.reduceLT, Int.reduceLE, Int.reduceEq, Int.reduceGT, Int.reduceGE, Int.reduceToNat, ↓reduceIte, List.reduceReplicate, Nat.reduceAdd, Nat.reduceSub, Nat.reduceMul, Nat.reduceLT, Nat.reduceLeDiff, Nat.reduceBEq, Nat.reduceEqDiff, List.take, List.drop, List.length_cons, List.length_nil, List.nil_append]
  refine ld_cell2 (cs := [I x.1, I x.2.1, I x.2.2]) List.mem_cons_self rfl ?_
  simp (config := { maxSteps := 4000000 }) only [↓sx0, ↓sx1, ↓sx2, ↓sx3, ↓sx4, ↓sx5, ↓sx6, sx0, sx1, sx2, sx3, sx4, sx5, sx6, tf73, ev3_hold, sxo, sxc, sxp, sxq, sxr, sxs, sxl, sxm, Int.reduceBEq, Int.reduceBNe, Int.reduceLT, Int.reduceLE, Int.reduceEq, Int.reduceGT, Int.reduceGE, Int.reduceToNat, ↓reduceIte, List.reduceReplicate, Nat.reduceAdd, Nat.reduceSub, Nat.reduceMul, Nat.reduceLT, Nat.reduceLeDiff, Nat.reduceBEq, Nat.reduceEqDiff]
  refine ld_cella (cs := [I x.1, I x.2.1, I x.2.2]) List.mem_cons_self rfl ?_
  simp (config := { maxSteps := 4000000 }) only [↓sx0, ↓sx1, ↓sx2, ↓sx3, ↓sx4, ↓sx5, ↓sx6, sx0, sx1, sx2, sx3, sx4, sx5, sx6, tf73, ev3_hold, sxo, sxc, sxp, sxq, sxr, sxs, sxl, sxm, Int.reduceBEq, Int.reduceBNe, Int.reduceLT, Int.reduceLE, Int.reduceEq, Int.reduceGT, Int.reduceGE, Int.reduceToNat, ↓reduceIte, List.reduceReplicate, Nat.reduceAdd, Nat.reduceSub, Nat.reduceMul, Nat.reduceLT, Nat.reduceLeDiff, Nat.reduceBEq, Nat.reduceEqDiff, w1, w3]
  refine ld_cell2 (cs := [I x.1, I x.2.1, I x.2.2]) List.mem_cons_self rfl ?_
  simp (config := { maxSteps := 4000000 }) only [↓sx0, ↓sx1, ↓sx2, ↓sx3, ↓sx4, ↓sx5, ↓sx6, sx0, sx1, sx2, sx3, sx4, sx5, sx6, tf73, ev3_hold, sxo, sxc, sxp, sxq, sxr, sxs, sxl, sxm, Int.reduceBEq, Int.reduceBNe, Int.reduceLT, Int.reduceLE, Int.reduceEq, Int.reduceGT, Int.reduceGE, Int.reduceToNat, ↓reduceIte, List.reduceReplicate, Nat.reduceAdd, Nat.reduceSub, Nat.reduceMul, Nat.reduceLT, Nat.reduceLeDiff, Nat.reduceBEq, Nat.reduceEqDiff]
  refine ld_cella (cs := [I x.1, I x.2.1, I x.2.2]) List.mem_cons_self rfl ?_
  simp (config := { maxSteps := 4000000 }) only [↓sx0, ↓sx1, ↓sx2, ↓sx3, ↓sx4, ↓sx5, ↓sx6, sx0, sx1, sx2, sx3, sx4, sx5, sx6, tf73, ev3_hold, sxo, sxc, sxp, sxq, sxr, sxs, sxl, sxm, Int.reduceBEq, Int.reduceBNe, Int.reduceLT, Int.reduceLE, Int.reduceEq, Int.reduceGT, Int.reduceGE, Int.reduceToNat, ↓reduceIte, List.reduceReplicate, Nat.reduceAdd, Nat.reduceSub, Nat.reduceMul, Nat.reduceLT, Nat.reduceLeDiff, Nat.reduceBEq, Nat.reduceEqDiff, w2, w4, e2]
  exact ⟨i + 1, _, ⟨rfl, rfl, rfl⟩, HImp.nil _ _, ⟨by omega, rfl⟩, by omega⟩
end Go.Proofs.YtcnlbnccbnapbaaDoor

namespace Go.Proofs.YtcnlbnccbnapbaaDoor
open Go.RowKit Go.SX
set_option maxRecDepth 10000
set_option maxHeartbeats 0
set_option linter.unusedSimpArgs false
set_option linter.unusedVariables false
theorem walkZ {f : Nat} {fn : Func} {c : Code} {args : List Value} {n : Nat} {rs : List ResultVar} {Post : Value → List HO → Prop} {w : World} {X : Nat → Prop} (Z : Nat → Prop) (re : List Nat) (ord : List (Nat × Plan)) {det : Nat → List Value → Option Value} (hD : DetFn Tryd.prog ⟨w, X⟩ det)
    (hf : Tryd.prog.funcs[f]? = some fn) (hb : fn.body = some c) (hn : fn.ntmps = n) (hr : fn.results.toList = rs) (hok : codeB ord c = true) {H0 : List HO}
    (h0 : (∀ h ∈ H0, h.ok w) ∧ (∀ h ∈ H0, ∀ b, (h.fp b → Z b) ∧ (h.fpx b → X b)) ∧ H0.Pairwise Apart)
    (h : W (EV w X re ord det []) c (retQ (EV w X re ord det []) rs Post) (args.map SV.v ++ List.replicate (n - args.length) (.v undef)) [] H0) : FnZ Tryd.prog f args w X Z Post := by
  subst hn hr
  exact Fn.introZ (E := EV w X re ord det []) Z hf hb trivial hD mixed_prog hok h0 h
def idx (n : Nat) : List Int := (List.range n).map fun (i : Nat) => (i : Int)
theorem idx_len (n : Nat) : (idx n).length = n := by unfold idx; rw [List.length_map, List.length_range]
theorem idx_get {n i : Nat} (h : i < (idx n).length) : (idx n)[i] = (i : Int) := by simp [idx]
def listArg (all : List (List Int)) : Nat → List Value → List HO → Prop := fun k vs F => ∃ x a c, all[k]? = some x ∧ vs = [.slice a x.length c] ∧ (a = none → x = []) ∧ F = [.ro (.row (.slice a x.length c) 3 1 (ints x))]
def fromC (bm bl bf : Nat) : Value := .func (.func 96) #[] #[.pointer (some ⟨bm, 0, none⟩), .pointer (some ⟨bl, 0, none⟩), .pointer (some ⟨bf, 0, none⟩)]
def FrP (J : Option Nat → (Nat → Prop) → (Nat → Prop) → World → Prop) (k : Nat) (v : Value) (N : List HO) : Prop := ∃ t C2 R2, v = .bool t ∧ consu J (bif t then some k else none) C2 R2 ∈ N
theorem sl_full {w : World} {ad : Addr} {n c : Nat} {xs : List Value} (h : Sl w (.slice (some ad) n c) 1 xs) : Sl w (.slice (some (if n = 0 then ad else ad.add 0)) n n) 1 xs := by
  have hl := h.len
  split
  · rename_i h0
    subst h0
    have : xs = [] := List.eq_nil_of_length_eq_zero (by omega)
    subst this
    exact ⟨_, _, _, rfl, rfl, fun i x hx => by simp at hx⟩
  · have := Sl.pre (m := n) (c := n) h (Nat.le_refl _)
    rwa [List.take_of_length_le (by omega)] at this
theorem sl_nonil {w : World} {n c sz : Nat} {xs : List Value} (h : Sl w (.slice none n c) sz xs) : xs = [] := by
  cases xs with
  | nil => rfl
  | cons y ys =>
    obtain ⟨_, _, _, e, _, hcl⟩ := h
    cases e
    obtain ⟨ad, h, _⟩ := hcl 0 _ rfl
    cases h
theorem ints_nil {l : List Int} (h : ints l = []) : l = [] := by
  cases l with
  | nil => rfl
  | cons y ys => simp [cat, i1] at h
def pl96_6 : Plan := (ones [1, 2, 3, 4, 5, 6, 7, 10, 11, 12] (.ld 0 (ones [8] (.kl 9 (.mu 13 (ones [14] .fin))))))
def pl96 : List (Nat × Plan) := [(6, pl96_6)]
theorem pl96_lk : (lkO 6 pl96 = some pl96_6) := rfl
theorem choose1_fn (all : List (List Int)) (ws : World) (C0 A0 : Nat → Prop) (l : Nat) (J : Option Nat → (Nat → Prop) → (Nat → Prop) → World → Prop) (hH : Handler Tryd.prog l all.length (listArg all) ws C0 A0 J) (bm bl bf many below : Nat) (hmany : many ≤ 1000) (hbel : below ≤ 1000) : ∀ (r : Nat) (w : World) (k : Nat) (C R : Nat → Prop) (vl : Value) (list : List Int) (first : Nat),
    Keep (fun b => C0 b ∨ A0 b) ws w → (∀ b, C b → (C0 b ∨ A0 b) ∨ ws.heap.size ≤ b) → HO.ok w (consu J (some k) C R) → HO.ok w (.row vl 3 1 (ints list)) → (∀ b, vl.ownBlock = some b → ¬ C b ∧ ws.heap.size ≤ b) →
    w.cell? ⟨bm, 0, none⟩ = some (I many) → ¬ C bm → w.cell? ⟨bl, 0, none⟩ = some (I below) → ¬ C bl → w.cell? ⟨bf, 0, none⟩ = some (fromC bm bl bf) → ¬ C bf → list.length + r = many → first ≤ below → tailAt all ((cmb r ((idx below).drop first)).map (list ++ ·)) k →
    FnZ Tryd.prog 96 [vl, I first, .func (.yield l) #[] #[], .pointer (some ⟨bm, 0, none⟩), .pointer (some ⟨bl, 0, none⟩), .pointer (some ⟨bf, 0, none⟩)] w C (fun b => C b ∨ R b ∨ vl.ownBlock = some b) (FrP J (k + (cmb r ((idx below).drop first)).length)) := by
  intro r
  induction r with
  | zero =>
    intro w k C R vl list first hks hXs hc hl hlX hm hmX hb hbX hf hfX hlen hrl hpart
    have hsl := RowOk.sl hl
    obtain ⟨a, n, c, rfl⟩ := hsl.shape
    have hn := hsl.le i1_len (by omega)
    subst hn
    have e1 : ((list.length : Int) = (many : Int)) = True := eq_true (by omega)
    have hk : k < all.length := by have := hpart.1; simp [cmb] at this; omega
    have hall : all[k]? = some list := by have := hpart.2 0 (by simp [cmb]); simpa [cmb] using this
    refine walkZ (H0 := [consu J (some k) C R, .ro (.row (.slice a list.length c) 3 1 (ints list))]) _ [] pl96 (det0_ok _ _) Tryd.func96 rfl Tryd.ntmps96 res96 (by kernel_rfl) ⟨?_, ?_, ?_⟩ ?_
    · intro h hh
      simp only [List.mem_cons, List.not_mem_nil, or_false] at hh
      rcases hh with rfl | rfl
      · exact hc
      · exact hl
    · intro h hh b
      simp only [List.mem_cons, List.not_mem_nil, or_false] at hh
      rcases hh with rfl | rfl
      · exact ⟨fun h => h.elim .inl fun h => .inr (.inl h), id⟩
      · exact ⟨fun h => .inr (.inr h), fun h => h.elim⟩
    · refine List.pairwise_cons.2 ⟨fun h hh b hb hb' => ?_, List.pairwise_singleton _ _⟩
      rw [List.mem_singleton] at hh
      subst hh
      exact ⟨(hlX b hb').1, id⟩
    simp (config := { maxSteps := 4000000 }) only [↓sx0, ↓sx1, ↓sx2, ↓sx3, ↓sx4, ↓sx5, ↓sx6, sx0, sx1, sx2, sx3, sx4, sx5, sx6, tf96, ev3_hold, sxo, sxc, sxp, sxq, sxr, sxs, sxl, sxm, Int.reduceBEq, Int.reduceBNe, Int.reduceLT, Int.reduceLE, Int.reduceEq, Int.reduceGT, Int.reduceGE, Int.reduceToNat, ↓reduceIte, List.reduceReplicate, Nat.reduceAdd, Nat.reduceSub, Nat.reduceMul, Nat.reduceLT, Nat.reduceLeDiff, Nat.reduceBEq, Nat.reduceEqDiff]
    refine ld_old hm hmX ?_
    simp (config := { maxSteps := 4000000 }) only [↓sx0, ↓sx1, ↓sx2, ↓sx3, ↓sx4, ↓sx5, ↓sx6, sx0, sx1, sx2, sx3, sx4, sx5, sx6, tf96, ev3_hold, sxo, sxc, sxp, sxq, sxr, sxs, sxl, sxm, Int.reduceBEq, Int.reduceBNe, Int.reduceLT, Int.reduceLE, Int.reduceEq, Int.reduceGT, Int.reduceGE, Int.reduceToNat, ↓reduceIte, List.reduceReplicate, Nat.reduceAdd, Nat.reduceSub, Nat.reduceMul, Nat.reduceLT, Nat.reduceLeDiff, Nat.reduceBEq, Nat.reduceEqDiff, e1]
    refine CallOb.yieldL hH hks hXs (k := k) hk (F := [.ro (.row (.slice a list.length c) 3 1 (ints list))]) (B := [.ro (.row (.slice a list.length c) 3 1 (ints list))]) (HImp.refl _ _) (List.Sublist.refl _) ⟨list, a, c, hall, rfl, fun h => by subst h; exact ints_nil (sl_nonil hsl), rfl⟩ (by simp [HO.fpx]) (fun w' hp b ⟨h, hh, hb⟩ => ?_) fun t C2 R2 => ?_
    · rw [List.mem_singleton] at hh
      subst hh
      exact (hlX b hb).2
    refine ⟨?_⟩
    simp (config := { maxSteps := 4000000 }) only [↓sx0, ↓sx1, ↓sx2, ↓sx3, ↓sx4, ↓sx5, ↓sx6, sx0, sx1, sx2, sx3, sx4, sx5, sx6, tf96, ev3_hold, sxo, sxc, sxp, sxq, sxr, sxs, sxl, sxm, Int.reduceBEq, Int.reduceBNe, Int.reduceLT, Int.reduceLE, Int.reduceEq, Int.reduceGT, Int.reduceGE, Int.reduceToNat, ↓reduceIte, List.reduceReplicate, Nat.reduceAdd, Nat.reduceSub, Nat.reduceMul, Nat.reduceLT, Nat.reduceLeDiff, Nat.reduceBEq, Nat.reduceEqDiff]
    exact ⟨t, C2, R2, rfl, by simp [cmb]⟩
  | succ r ih =>
  intro w k C R vl list first hks hXs hc hl hlX hm hmX hb hbX hf hfX hlen hrl hpart
  have hsl := RowOk.sl hl
  obtain ⟨a, n, c, rfl⟩ := hsl.shape
  have hcap : n ≤ c := RowOk.cap hl
  have hn := hsl.le i1_len (by omega)
  subst hn
  have hmlt := World.block_lt_of_cell? w _ hm
  have hblt := World.block_lt_of_cell? w _ hb
  have hflt := World.block_lt_of_cell? w _ hf
  have e1 : ((list.length : Int) = (many : Int)) = False := eq_false (by omega)
  have dn : ∀ (g : Nat) (xs : List Value), det0 g xs = none := fun _ _ => rfl
  have hT := Tryd.call96
  obtain ⟨B0, hB0⟩ : ∃ B0, [HO.ro (.row (.slice a list.length c) 3 1 (ints list))] = B0 := ⟨_, rfl⟩
  refine walkZ (H0 := consu J (some k) C R :: B0) _ [] pl96 (det0_ok _ _) Tryd.func96 rfl Tryd.ntmps96 res96 (by kernel_rfl) ⟨?_, ?_, ?_⟩ ?_
  · intro h hh
    subst hB0
    simp only [List.mem_cons, List.not_mem_nil, or_false] at hh
    rcases hh with rfl | rfl
    · exact hc
    · exact hl
  · intro h hh b
    subst hB0
    simp only [List.mem_cons, List.not_mem_nil, or_false] at hh
    rcases hh with rfl | rfl
    · exact ⟨fun h => h.elim .inl fun h => .inr (.inl h), id⟩
    · exact ⟨fun h => .inr (.inr h), fun h => h.elim⟩
  · subst hB0
    refine List.pairwise_cons.2 ⟨fun h hh b hb hb' => ?_, List.pairwise_singleton _ _⟩
    rw [List.mem_singleton] at hh
    subst hh
    exact ⟨(hlX b hb').1, id⟩
  simp (config := { maxSteps := 4000000 }) only [↓sx0, ↓sx1, ↓sx2, ↓sx3, ↓sx4, ↓sx5, ↓sx6, sx0, sx1, sx2, sx3, sx4, sx5, sx6, tf96, ev3_hold, sxo, sxc, sxp, sxq, sxr, sxs, sxl, sxm, Int.reduceBEq, Int.reduceBNe, Int.reduceLT, Int.reduceLE, Int.reduceEq, Int.reduceGT, Int.reduceGE, Int.reduceToNat, ↓reduceIte, List.reduceReplicate, Nat.reduceAdd, Nat.reduceSub, Nat.reduceMul, Nat.reduceLT, Nat.reduceLeDiff, Nat.reduceBEq, Nat.reduceEqDiff]
  refine ld_old hm hmX ?_
  simp (config := { maxSteps := 4000000 }) only [↓sx0, ↓sx1, ↓sx2, ↓sx3, ↓sx4, ↓sx5, ↓sx6, sx0, sx1, sx2, sx3, sx4, sx5, sx6, tf96, ev3_hold, sxo, sxc, sxp, sxq, sxr, sxs, sxl, sxm, Int.reduceBEq, Int.reduceBNe, Int.reduceLT, Int.reduceLE, Int.reduceEq, Int.reduceGT, Int.reduceGE, Int.reduceToNat, ↓reduceIte, List.reduceReplicate, Nat.reduceAdd, Nat.reduceSub, Nat.reduceMul, Nat.reduceLT, Nat.reduceLeDiff, Nat.reduceBEq, Nat.reduceEqDiff, e1]
  refine loop_constH _ (HImp.refl _ _) [(9, 10), (19, 38)] (fun i : Nat => [(9, .bool false), (10, I i)])
    (fun i H1 => i ≤ below ∧ ∃ k1 C1 R1, k1 + (cmb (r + 1) ((idx below).drop i)).length = k + (cmb (r + 1) ((idx below).drop first)).length ∧ tailAt all ((cmb (r + 1) ((idx below).drop i)).map (list ++ ·)) k1 ∧ H1 = consu J (some k1) C1 R1 :: B0) (fun i => below - i) first ?_ ⟨hrl, k, C, R, rfl, hpart, rfl⟩ ?_
  · simp (config := { maxSteps := 4000000 }) only [↓sx0, ↓sx1, ↓sx2, ↓sx3, ↓sx4, ↓sx5, ↓sx6, sx0, sx1, sx2, sx3, sx4, sx5, sx6, tf96, ev3_hold, sxo, sxc, sxp, sxq, sxr, sxs, sxl, sxm, Int.reduceBEq, Int.reduceBNe, Int.reduceLT, Int.reduceLE, Int.reduceEq, Int.reduceGT, Int.reduceGE, Int.reduceToNat, ↓reduceIte, List.reduceReplicate, Nat.reduceAdd, Nat.reduceSub, Nat.reduceMul, Nat.reduceLT, Nat.reduceLeDiff, Nat.reduceBEq, Nat.reduceEqDiff]
    try simp
  rintro i H1 g1 ⟨hi, k1, C1, R1, hk1, hp1, rfl⟩
  by_cases hin : i = below
  · have e7 : ((i : Int) < (below : Int)) = False := eq_false (by omega)
    rw [List.drop_of_length_le (by rw [idx_len]; omega), cmb, List.length_nil, Nat.add_zero] at hk1
    refine ⟨?_⟩
    simp (config := { maxSteps := 4000000 }) only [↓sx0, ↓sx1, ↓sx2, ↓sx3, ↓sx4, ↓sx5, ↓sx6, sx0, sx1, sx2, sx3, sx4, sx5, sx6, tf96, ev3_hold, sxo, sxc, sxp, sxq, sxr, sxs, sxl, sxm, Int.reduceBEq, Int.reduceBNe, Int.reduceLT, Int.reduceLE, Int.reduceEq, Int.reduceGT, Int.reduceGE, Int.reduceToNat, ↓reduceIte, List.reduceReplicate, Nat.reduceAdd, Nat.reduceSub, Nat.reduceMul, Nat.reduceLT, Nat.reduceLeDiff, Nat.reduceBEq, Nat.reduceEqDiff]
    refine ld_old hb hbX ?_
    simp (config := { maxSteps := 4000000 }) only [↓sx0, ↓sx1, ↓sx2, ↓sx3, ↓sx4, ↓sx5, ↓sx6, sx0, sx1, sx2, sx3, sx4, sx5, sx6, tf96, ev3_hold, sxo, sxc, sxp, sxq, sxr, sxs, sxl, sxm, Int.reduceBEq, Int.reduceBNe, Int.reduceLT, Int.reduceLE, Int.reduceEq, Int.reduceGT, Int.reduceGE, Int.reduceToNat, ↓reduceIte, List.reduceReplicate, Nat.reduceAdd, Nat.reduceSub, Nat.reduceMul, Nat.reduceLT, Nat.reduceLeDiff, Nat.reduceBEq, Nat.reduceEqDiff, e7]
    exact ⟨true, C1, R1, rfl, by rw [hk1]; exact List.mem_cons_self⟩
  have e7 : ((i : Int) < (below : Int)) = True := eq_true (by omega)
  have e8 : wr (i + 1) = ((i + 1 : Nat) : Int) := (wrap_id (by omega)).trans (by omega)
  have hil : i < (idx below).length := by rw [idx_len]; omega
  rw [cmb_drop r hil, idx_get hil] at hk1 hp1
  rw [List.map_append] at hp1
  have hpl := tailAt_left hp1
  have hpr := tailAt_right hp1
  rw [List.map_map] at hpl
  rw [List.length_append, List.length_map] at hk1
  rw [List.length_map, List.length_map] at hpr
  obtain ⟨x, hx⟩ : ∃ x : Int, (i : Int) = x := ⟨_, rfl⟩
  have hfun : ((list ++ ·) ∘ ((i : Int) :: ·) : List Int → List Int) = ((list ++ [(i : Int)]) ++ ·) := by
    funext y
    simp
  rw [hfun] at hpl
  have hcall : ∀ (ad2 : Addr) (c2 : Nat) (H : List HO) (kont : Value → List HO → Prop), (∀ b, (Value.slice (some ad2) (list.length + 1) c2).ownBlock = some b → w.heap.size ≤ b) →
      HImp ⟨w, C⟩ H ([consu J (some k1) C1 R1, .row (.slice (some ad2) (list.length + 1) c2) 3 1 (ints (list ++ [(i : Int)]))] ++ B0) → (∀ v N, FrP J (k1 + (cmb r ((idx below).drop (i + 1))).length) v N → SX.Hid (kont v (N ++ B0))) →
      CallOb Tryd.prog ⟨w, C⟩ false (.fn 96) [.slice (some ad2) (list.length + 1) c2, I ((i + 1 : Nat) : Int), .func (.yield l) #[] #[], .pointer (some ⟨bm, 0, none⟩), .pointer (some ⟨bl, 0, none⟩), .pointer (some ⟨bf, 0, none⟩)] H kont := fun ad2 c2 H kont hnew hi hk => by
    refine CallOb.mutZ C1 (fun b => C1 b ∨ R1 b ∨ (Value.slice (some ad2) (list.length + 1) c2).ownBlock = some b) hi (fun b hb => ⟨_, List.mem_cons_self, hb⟩) (fun b hb => ?_) (fun w' hp => ?_) hk
    · rcases hb with hb | hb | hb
      · exact ⟨_, List.mem_cons_self, .inl hb⟩
      · exact ⟨_, List.mem_cons_self, .inr hb⟩
      · exact ⟨_, List.mem_cons_of_mem _ List.mem_cons_self, hb⟩
    have hm1 : consu J (some k1) C1 R1 ∈ [consu J (some k1) C1 R1, HO.row (.slice (some ad2) (list.length + 1) c2) 3 1 (ints (list ++ [(i : Int)]))] ++ B0 := List.mem_cons_self
    have hm2 : HO.row (.slice (some ad2) (list.length + 1) c2) 3 1 (ints (list ++ [(i : Int)])) ∈ [consu J (some k1) C1 R1, HO.row (.slice (some ad2) (list.length + 1) c2) 3 1 (ints (list ++ [(i : Int)]))] ++ B0 := List.mem_cons_of_mem _ List.mem_cons_self
    have hold : ∀ b, C1 b → C b ∨ w.heap.size ≤ b := fun b hb => hp.old _ hm1 b hb
    have hnd := List.pairwise_cons.1 hp.nd
    refine ih w' k1 C1 R1 _ (list ++ [(i : Int)]) (i + 1) (hp.ext.into hks hXs) (fun b hb => (hold b hb).elim (hXs b) fun h => .inr (Nat.le_trans hks.size h)) (hp.ok _ hm1) (hp.ok _ hm2) (fun b hb => ⟨fun hC => (hnd.1 _ List.mem_cons_self b (.inl hC) hb).1 hC, Nat.le_trans hks.size (hnew b hb)⟩)
      ?_ ?_ ?_ ?_ ?_ ?_ (by rw [List.length_append, List.length_singleton]; omega) (by omega) hpl
    · exact (World.cell?_of_block (w := w) (hp.ext.block bm hmlt hmX)).trans hm
    · exact fun h => (hold bm h).elim hmX fun h => absurd hmlt (Nat.not_lt.2 h)
    · exact (World.cell?_of_block (w := w) (hp.ext.block bl hblt hbX)).trans hb
    · exact fun h => (hold bl h).elim hbX fun h => absurd hblt (Nat.not_lt.2 h)
    · exact (World.cell?_of_block (w := w) (hp.ext.block bf hflt hfX)).trans hf
    · exact fun h => (hold bf h).elim hfX fun h => absurd hflt (Nat.not_lt.2 h)
  have hend : ∀ (N : List HO) C2 R2, consu J (some (k1 + (cmb r ((idx below).drop (i + 1))).length)) C2 R2 ∈ N → ∃ H3, HImp ⟨w, C⟩ (N ++ B0) H3 ∧ (i + 1 ≤ below ∧ ∃ k1 C1 R1, k1 + (cmb (r + 1) ((idx below).drop (i + 1))).length = k + (cmb (r + 1) ((idx below).drop first)).length ∧ tailAt all ((cmb (r + 1) ((idx below).drop (i + 1))).map (list ++ ·)) k1 ∧ H3 = consu J (some k1) C1 R1 :: B0) := fun N C2 R2 hm =>
    ⟨_, HImp.append (HImp.pick hm), by omega, _, C2, R2, by omega, hpr, rfl⟩
  cases a with
  | none =>
    have hl0 : list = [] := ints_nil (sl_nonil hsl)
    subst hl0
    simp only [List.length_nil, Nat.zero_add, List.nil_append] at hcall
    refine ⟨?_⟩
    simp (config := { maxSteps := 4000000 }) only [↓sx0, ↓sx1, ↓sx2, ↓sx3, ↓sx4, ↓sx5, ↓sx6, sx0, sx1, sx2, sx3, sx4, sx5, sx6, tf96, ev3_hold, sxo, sxc, sxp, sxq, sxr, sxs, sxl, sxm, Int.reduceBEq, Int.reduceBNe, Int.reduceLT, Int.reduceLE, Int.reduceEq, Int.reduceGT, Int.reduceGE, Int.reduceToNat, ↓reduceIte, List.reduceReplicate, Nat.reduceAdd, Nat.reduceSub, Nat.reduceMul, Nat.reduceLT, Nat.reduceLeDiff, Nat.reduceBEq, Nat.reduceEqDiff]
    refine ld_old hb hbX ?_
    simp (config := { maxSteps := 4000000 }) only [↓sx0, ↓sx1, ↓sx2, ↓sx3, ↓sx4, ↓sx5, ↓sx6, sx0, sx1, sx2, sx3, sx4, sx5, sx6, tf96, ev3_hold, sxo, sxc, sxp, sxq, sxr, sxs, sxl, sxm, Int.reduceBEq, Int.reduceBNe, Int.reduceLT, Int.reduceLE, Int.reduceEq, Int.reduceGT, Int.reduceGE, Int.reduceToNat, ↓reduceIte, List.reduceReplicate, Nat.reduceAdd, Nat.reduceSub, Nat.reduceMul, Nat.reduceLT, Nat.reduceLeDiff, Nat.reduceBEq, Nat.reduceEqDiff, e7, e8, pl96_lk, pl96_6]
    refine ⟨by simp, by simp, by simp, by simp, ?_⟩
    refine ld_old hf hfX ?_
    unfold fromC
    simp (config := { maxSteps := 4000000 }) only [↓sx0, ↓sx1, ↓sx2, ↓sx3, ↓sx4, ↓sx5, ↓sx6, sx0, sx1, sx2, sx3, sx4, sx5, sx6, tf96, ev3_hold, sxo, sxc, sxp, sxq, sxr, sxs, sxl, sxm, Int.reduceBEq, Int.reduceBNe, Int.reduceLT, Int.reduceLE, Int.reduceEq, Int.reduceGT, Int.reduceGE, Int.reduceToNat, ↓reduceIte, List.reduceReplicate, Nat.reduceAdd, Nat.reduceSub, Nat.reduceMul, Nat.reduceLT, Nat.reduceLeDiff, Nat.reduceBEq, Nat.reduceEqDiff, pl96_lk, pl96_6]
    intro b
    refine app_nilN (f := i1) (i : Int) i1_len i1_one (by decide) fun ad2 c2 hnew => ?_
    simp (config := { maxSteps := 4000000 }) only [↓sx0, ↓sx1, ↓sx2, ↓sx3, ↓sx4, ↓sx5, ↓sx6, sx0, sx1, sx2, sx3, sx4, sx5, sx6, tf96, ev3_hold, sxo, sxc, sxp, sxq, sxr, sxs, sxl, sxm, Int.reduceBEq, Int.reduceBNe, Int.reduceLT, Int.reduceLE, Int.reduceEq, Int.reduceGT, Int.reduceGE, Int.reduceToNat, ↓reduceIte, List.reduceReplicate, Nat.reduceAdd, Nat.reduceSub, Nat.reduceMul, Nat.reduceLT, Nat.reduceLeDiff, Nat.reduceBEq, Nat.reduceEqDiff, hT, dn, pl96_lk, pl96_6]
    refine ⟨hT, hcall ad2 c2 _ _ hnew (HImp.swap _ _ _ _) ?_⟩
    rintro v N ⟨t, C2, R2, rfl, hm⟩
    cases t with
    | false =>
      refine ⟨?_⟩
      simp (config := { maxSteps := 4000000 }) only [↓sx0, ↓sx1, ↓sx2, ↓sx3, ↓sx4, ↓sx5, ↓sx6, sx0, sx1, sx2, sx3, sx4, sx5, sx6, tf96, ev3_hold, sxo, sxc, sxp, sxq, sxr, sxs, sxl, sxm, Int.reduceBEq, Int.reduceBNe, Int.reduceLT, Int.reduceLE, Int.reduceEq, Int.reduceGT, Int.reduceGE, Int.reduceToNat, ↓reduceIte, List.reduceReplicate, Nat.reduceAdd, Nat.reduceSub, Nat.reduceMul, Nat.reduceLT, Nat.reduceLeDiff, Nat.reduceBEq, Nat.reduceEqDiff, pl96_lk, pl96_6]
      exact ⟨false, C2, R2, rfl, List.mem_append_left _ hm⟩
    | true =>
      obtain ⟨H3, h1, h2⟩ := hend N C2 R2 hm
      refine ⟨?_⟩
      simp (config := { maxSteps := 4000000 }) only [↓sx0, ↓sx1, ↓sx2, ↓sx3, ↓sx4, ↓sx5, ↓sx6, sx0, sx1, sx2, sx3, sx4, sx5, sx6, tf96, ev3_hold, sxo, sxc, sxp, sxq, sxr, sxs, sxl, sxm, Int.reduceBEq, Int.reduceBNe, Int.reduceLT, Int.reduceLE, Int.reduceEq, Int.reduceGT, Int.reduceGE, Int.reduceToNat, ↓reduceIte, List.reduceReplicate, Nat.reduceAdd, Nat.reduceSub, Nat.reduceMul, Nat.reduceLT, Nat.reduceLeDiff, Nat.reduceBEq, Nat.reduceEqDiff, e8, pl96_lk, pl96_6]
      exact ⟨i + 1, H3, rfl, h1, h2, by omega⟩
  | some adl =>
    refine ⟨?_⟩
    simp (config := { maxSteps := 4000000 }) only [↓sx0, ↓sx1, ↓sx2, ↓sx3, ↓sx4, ↓sx5, ↓sx6, sx0, sx1, sx2, sx3, sx4, sx5, sx6, tf96, ev3_hold, sxo, sxc, sxp, sxq, sxr, sxs, sxl, sxm, Int.reduceBEq, Int.reduceBNe, Int.reduceLT, Int.reduceLE, Int.reduceEq, Int.reduceGT, Int.reduceGE, Int.reduceToNat, ↓reduceIte, List.reduceReplicate, Nat.reduceAdd, Nat.reduceSub, Nat.reduceMul, Nat.reduceLT, Nat.reduceLeDiff, Nat.reduceBEq, Nat.reduceEqDiff]
    refine ld_old hb hbX ?_
    simp (config := { maxSteps := 4000000 }) only [↓sx0, ↓sx1, ↓sx2, ↓sx3, ↓sx4, ↓sx5, ↓sx6, sx0, sx1, sx2, sx3, sx4, sx5, sx6, tf96, ev3_hold, sxo, sxc, sxp, sxq, sxr, sxs, sxl, sxm, Int.reduceBEq, Int.reduceBNe, Int.reduceLT, Int.reduceLE, Int.reduceEq, Int.reduceGT, Int.reduceGE, Int.reduceToNat, ↓reduceIte, List.reduceReplicate, Nat.reduceAdd, Nat.reduceSub, Nat.reduceMul, Nat.reduceLT, Nat.reduceLeDiff, Nat.reduceBEq, Nat.reduceEqDiff, e7, e8, pl96_lk, pl96_6]
    refine ⟨by omega, by omega, by omega, by omega, ?_⟩
    refine ld_old hf hfX ?_
    unfold fromC
    simp (config := { maxSteps := 4000000 }) only [↓sx0, ↓sx1, ↓sx2, ↓sx3, ↓sx4, ↓sx5, ↓sx6, sx0, sx1, sx2, sx3, sx4, sx5, sx6, tf96, ev3_hold, sxo, sxc, sxp, sxq, sxr, sxs, sxl, sxm, Int.reduceBEq, Int.reduceBNe, Int.reduceLT, Int.reduceLE, Int.reduceEq, Int.reduceGT, Int.reduceGE, Int.reduceToNat, ↓reduceIte, List.reduceReplicate, Nat.reduceAdd, Nat.reduceSub, Nat.reduceMul, Nat.reduceLT, Nat.reduceLeDiff, Nat.reduceBEq, Nat.reduceEqDiff, pl96_lk, pl96_6]
    intro b
    rw [show (if list.length = 0 then some adl else some (adl.add 0)) = some (if list.length = 0 then adl else adl.add 0) by split <;> rfl, Nat.sub_zero]
    refine app_roN (f := i1) (l := list) (m := [(i : Int)]) i1_len (by simp) (fun w' hp => ?_) (fun w' hp => row_hp List.mem_cons_self hp) (by simp only [List.length_cons, List.length_nil]; omega) fun b2 c2 hnew => ?_
    · exact sl_full (ro_hp (E := 3) (v := .slice (some adl) list.length c) (sz := 1) (xs := ints list) (by rw [← hB0]; simp) hp)
    simp (config := { maxSteps := 4000000 }) only [↓sx0, ↓sx1, ↓sx2, ↓sx3, ↓sx4, ↓sx5, ↓sx6, sx0, sx1, sx2, sx3, sx4, sx5, sx6, tf96, ev3_hold, sxo, sxc, sxp, sxq, sxr, sxs, sxl, sxm, Int.reduceBEq, Int.reduceBNe, Int.reduceLT, Int.reduceLE, Int.reduceEq, Int.reduceGT, Int.reduceGE, Int.reduceToNat, ↓reduceIte, List.reduceReplicate, Nat.reduceAdd, Nat.reduceSub, Nat.reduceMul, Nat.reduceLT, Nat.reduceLeDiff, Nat.reduceBEq, Nat.reduceEqDiff, hT, dn, pl96_lk, pl96_6]
    refine ⟨hT, hcall ⟨b2, 0, none⟩ c2 _ _ (fun b hb => ?_) ((HImp.tail2 _ _ _ _).trans (HImp.swap _ _ _ _)) ?_⟩
    · have h0 : b2 = b := by simpa [Value.ownBlock] using hb
      have h1 : w.heap.size ≤ b2 := hnew
      omega
    rintro v N ⟨t, C2, R2, rfl, hm⟩
    cases t with
    | false =>
      refine ⟨?_⟩
      simp (config := { maxSteps := 4000000 }) only [↓sx0, ↓sx1, ↓sx2, ↓sx3, ↓sx4, ↓sx5, ↓sx6, sx0, sx1, sx2, sx3, sx4, sx5, sx6, tf96, ev3_hold, sxo, sxc, sxp, sxq, sxr, sxs, sxl, sxm, Int.reduceBEq, Int.reduceBNe, Int.reduceLT, Int.reduceLE, Int.reduceEq, Int.reduceGT, Int.reduceGE, Int.reduceToNat, ↓reduceIte, List.reduceReplicate, Nat.reduceAdd, Nat.reduceSub, Nat.reduceMul, Nat.reduceLT, Nat.reduceLeDiff, Nat.reduceBEq, Nat.reduceEqDiff, pl96_lk, pl96_6]
      exact ⟨false, C2, R2, rfl, List.mem_append_left _ hm⟩
    | true =>
      obtain ⟨H3, h1, h2⟩ := hend N C2 R2 hm
      refine ⟨?_⟩
      simp (config := { maxSteps := 4000000 }) only [↓sx0, ↓sx1, ↓sx2, ↓sx3, ↓sx4, ↓sx5, ↓sx6, sx0, sx1, sx2, sx3, sx4, sx5, sx6, tf96, ev3_hold, sxo, sxc, sxp, sxq, sxr, sxs, sxl, sxm, Int.reduceBEq, Int.reduceBNe, Int.reduceLT, Int.reduceLE, Int.reduceEq, Int.reduceGT, Int.reduceGE, Int.reduceToNat, ↓reduceIte, List.reduceReplicate, Nat.reduceAdd, Nat.reduceSub, Nat.reduceMul, Nat.reduceLT, Nat.reduceLeDiff, Nat.reduceBEq, Nat.reduceEqDiff, e8, pl96_lk, pl96_6]
      exact ⟨i + 1, H3, rfl, h1, h2, by omega⟩
theorem choose2_it (w : World) (bf bl bm : Nat) (below many : Nat) (hmany : many ≤ 1000) (hll : below ≤ 1000) (hbf : w.cell? ⟨bf, 0, none⟩ = some (fromC bm bl bf)) (hbl : w.cell? ⟨bl, 0, none⟩ = some (I below)) (hbm : w.cell? ⟨bm, 0, none⟩ = some (I many)) :
    Iter Tryd.prog 97 [] [.pointer (some ⟨bf, 0, none⟩)] (cmb many (idx below)).length (listArg (cmb many (idx below))) (fun _ => False) (fun x => x = bf ∨ x = bl ∨ x = bm) w := by
  refine walkIterR _ [] [] (fun _ _ => det0_ok _ _) Tryd.func97 rfl Tryd.ntmps97 res97 (by kernel_rfl) fun y J C R hRs hH => ?_
  have hfX := hRs bf (.inl rfl)
  have hlX := hRs bl (.inr (.inl rfl))
  have hmX := hRs bm (.inr (.inr rfl))
  have dn : ∀ (g : Nat) (xs : List Value), det0 g xs = none := fun _ _ => rfl
  have hsz := World.block_lt_of_cell? w _ hbf
  have hmlt := World.block_lt_of_cell? w _ hbm
  have hllt := World.block_lt_of_cell? w _ hbl
  simp (config := { maxSteps := 4000000 }) only [↓sx0, ↓sx1, ↓sx2, ↓sx3, ↓sx4, ↓sx5, ↓sx6, sx0, sx1, sx2, sx3, sx4, sx5, sx6, tf97, ev3_hold, sxo, sxc, sxp, sxq, sxr, sxs, sxl, sxm, Int.reduceBEq, Int.reduceBNe, Int.reduceLT, Int.reduceLE, Int.reduceEq, Int.reduceGT, Int.reduceGE, Int.reduceToNat, ↓reduceIte, List.reduceReplicate, Nat.reduceAdd, Nat.reduceSub, Nat.reduceMul, Nat.reduceLT, Nat.reduceLeDiff, Nat.reduceBEq, Nat.reduceEqDiff]
  refine ld_old hbf hfX ?_
  unfold fromC
  simp (config := { maxSteps := 4000000 }) only [↓sx0, ↓sx1, ↓sx2, ↓sx3, ↓sx4, ↓sx5, ↓sx6, sx0, sx1, sx2, sx3, sx4, sx5, sx6, tf97, ev3_hold, sxo, sxc, sxp, sxq, sxr, sxs, sxl, sxm, Int.reduceBEq, Int.reduceBNe, Int.reduceLT, Int.reduceLE, Int.reduceEq, Int.reduceGT, Int.reduceGE, Int.reduceToNat, ↓reduceIte, List.reduceReplicate, Nat.reduceAdd, Nat.reduceSub, Nat.reduceMul, Nat.reduceLT, Nat.reduceLeDiff, Nat.reduceBEq, Nat.reduceEqDiff, dn]
  refine ⟨Tryd.call96, ?_⟩
  refine CallOb.mutZ (A := [consu J (some 0) C R, .row (.slice none 0 0) 3 1 (ints [])]) (B := []) (Post := FrP J (0 + (cmb many (idx below)).length)) C (fun b => C b ∨ R b ∨ (Value.slice none 0 0).ownBlock = some b) ((HImp.nilRow _ _ _ _).trans (HImp.swap _ _ _ _)) (fun b hb => ⟨_, List.mem_cons_self, hb⟩) (fun b hb => ?_) (fun w' hp => ?_) ?_
  · rcases hb with hb | hb | hb
    · exact ⟨_, List.mem_cons_self, .inl hb⟩
    · exact ⟨_, List.mem_cons_self, .inr hb⟩
    · simp [Value.ownBlock] at hb
  · refine choose1_fn (cmb many (idx below)) w C (fun _ => False) y J hH bm bl bf many below hmany hll many w' 0 C R _ [] 0 hp.ext (fun b hb => .inl (.inl hb)) (hp.ok _ List.mem_cons_self) (hp.ok _ (List.mem_cons_of_mem _ List.mem_cons_self)) (fun b hb => by simp [Value.ownBlock] at hb) ((World.cell?_of_block (w := w) (hp.ext.block bm hmlt hmX)).trans hbm) (fun h => hmX (.inl h)) ((World.cell?_of_block (w := w) (hp.ext.block bl hllt hlX)).trans hbl) (fun h => hlX (.inl h)) ((World.cell?_of_block (w := w) (hp.ext.block bf hsz hfX)).trans hbf) (fun h => hfX (.inl h)) (by simp) (Nat.zero_le _) ?_
    · have : (cmb many ((idx below).drop 0)).map (([] : List Int) ++ ·) = cmb many (idx below) := by
        rw [show (([] : List Int) ++ ·) = id from by funext x; rfl, List.map_id]
        rfl
      rw [this]
      exact tailAt_all _
  · rintro r N ⟨t, C2, R2, rfl, hm⟩
    refine ⟨?_⟩
    simp (config := { maxSteps := 4000000 }) only [↓sx0, ↓sx1, ↓sx2, ↓sx3, ↓sx4, ↓sx5, ↓sx6, sx0, sx1, sx2, sx3, sx4, sx5, sx6, tf97, ev3_hold, sxo, sxc, sxp, sxq, sxr, sxs, sxl, sxm, Int.reduceBEq, Int.reduceBNe, Int.reduceLT, Int.reduceLE, Int.reduceEq, Int.reduceGT, Int.reduceGE, Int.reduceToNat, ↓reduceIte, List.reduceReplicate, Nat.reduceAdd, Nat.reduceSub, Nat.reduceMul, Nat.reduceLT, Nat.reduceLeDiff, Nat.reduceBEq, Nat.reduceEqDiff]
    refine ⟨rfl, _, C2, R2, hm, ?_⟩
    cases t with
    | false => exact .inr rfl
    | true => exact .inl (congrArg some (Nat.zero_add _))
theorem choose_fn (w : World) (many below : Int) : SX.Fn Tryd.prog 68 [I many, I below] w (fun _ => False) fun r N => ∃ bf bl bm, r = .func (.func 97) #[] #[.pointer (some ⟨bf, 0, none⟩)] ∧ N = [HO.cells bf 148 [fromC bm bl bf], HO.cells bl 3 [I below], HO.cells bm 3 [I many]] := by
  refine walk [2, 3, 5] [] (det0_ok _ _) Tryd.func68 rfl Tryd.ntmps68 res68 (by kernel_rfl) no_facts ?_
  simp (config := { maxSteps := 4000000 }) only [↓sx0, ↓sx1, ↓sx2, ↓sx3, ↓sx4, ↓sx5, ↓sx6, sx0, sx1, sx2, sx3, sx4, sx5, sx6, tf68, ev3_hold, sxo, sxc, sxp, sxq, sxr, sxs, sxl, sxm, Int.reduceBEq, Int.reduceBNe, Int.reduceLT, Int.reduceLE, Int.reduceEq, Int.reduceGT, Int.reduceGE, Int.reduceToNat, ↓reduceIte, List.reduceReplicate, Nat.reduceAdd, Nat.reduceSub, Nat.reduceMul, Nat.reduceLT, Nat.reduceLeDiff, Nat.reduceBEq, Nat.reduceEqDiff]
  intro b1 b2 b3
  refine wr_cell (A := []) rfl (by simp) ?_
  simp (config := { maxSteps := 4000000 }) only [↓sx0, ↓sx1, ↓sx2, ↓sx3, ↓sx4, ↓sx5, ↓sx6, sx0, sx1, sx2, sx3, sx4, sx5, sx6, tf68, ev3_hold, sxo, sxc, sxp, sxq, sxr, sxs, sxl, sxm, Int.reduceBEq, Int.reduceBNe, Int.reduceLT, Int.reduceLE, Int.reduceEq, Int.reduceGT, Int.reduceGE, Int.reduceToNat, ↓reduceIte, List.reduceReplicate, Nat.reduceAdd, Nat.reduceSub, Nat.reduceMul, Nat.reduceLT, Nat.reduceLeDiff, Nat.reduceBEq, Nat.reduceEqDiff]
  exact ⟨b3, b2, b1, rfl, by simp [fromC]⟩
end Go.Proofs.YtcnlbnccbnapbaaDoor

namespace Go.Proofs.YtcnlbnccbnapbaaDoor
open Go.RowKit Go.SX
set_option linter.unusedSimpArgs false
set_option linter.unusedVariables false
def lexB : List Int → List Int → Bool
  | a :: x, b :: y => if a = b then lexB x y else decide (a < b)
  | _, _ => false
def befB (x y : List Int) : Bool := if x.length = y.length then lexB x y else decide (x.length < y.length)
theorem lexB_irr (x : List Int) : lexB x x = false := by
  induction x with
  | nil => rfl
  | cons a x ih => simp [lexB, ih]
theorem lexB_asym : ∀ {x y : List Int}, lexB x y = true → lexB y x = false := by
  intro x
  induction x with
  | nil => intro y h; simp [lexB] at h
  | cons a x ih =>
    intro y h
    cases y with
    | nil => simp [lexB] at h
    | cons b y =>
      simp only [lexB] at h ⊢
      by_cases e : a = b
      · subst e; simp only [if_true] at h ⊢; exact ih h
      · rw [if_neg e] at h; rw [if_neg (fun k => e k.symm)]
        simp only [decide_eq_true_eq, decide_eq_false_iff_not] at h ⊢
        omega
theorem cmb_mem {α : Type} : ∀ {l : List α} {m : Nat} {x : List α}, x ∈ cmb m l ↔ x.Sublist l ∧ x.length = m := by
  intro l
  induction l with
  | nil =>
    intro m x
    cases m with
    | zero =>
      simp only [cmb, List.mem_singleton, List.sublist_nil]
      exact ⟨fun h => ⟨h, by rw [h]; rfl⟩, fun h => h.1⟩
    | succ m =>
      simp only [cmb, List.not_mem_nil, List.sublist_nil, false_iff]
      rintro ⟨rfl, h⟩
      cases h
  | cons a r ih =>
    intro m x
    cases m with
    | zero =>
      simp only [cmb, List.mem_singleton]
      exact ⟨fun h => by rw [h]; exact ⟨List.nil_sublist _, rfl⟩, fun h => List.eq_nil_of_length_eq_zero h.2⟩
    | succ m =>
      simp only [cmb, List.mem_append, List.mem_map]
      constructor
      · rintro (⟨y, hy, rfl⟩ | h)
        · have := ih.1 hy
          exact ⟨this.1.cons_cons a, by simp [this.2]⟩
        · have := ih.1 h
          exact ⟨this.1.cons a, this.2⟩
      · rintro ⟨h, hl⟩
        cases h with
        | cons _ h => exact .inr (ih.2 ⟨h, hl⟩)
        | cons_cons _ h => exact .inl ⟨_, ih.2 ⟨h, by simpa using hl⟩, rfl⟩
theorem cmb_sorted : ∀ {l : List Int} (m : Nat), l.Pairwise (· < ·) → (cmb m l).Pairwise fun x y => lexB x y = true := by
  intro l
  induction l with
  | nil =>
    intro m _
    cases m with
    | zero => exact List.pairwise_singleton _ _
    | succ m => exact List.Pairwise.nil
  | cons a r ih =>
    intro m h
    have h := List.pairwise_cons.1 h
    cases m with
    | zero => exact List.pairwise_singleton _ _
    | succ m =>
      refine List.pairwise_append.2 ⟨List.pairwise_map.2 ((ih m h.2).imp fun {x y} h => by simp [lexB, h]), ih (m + 1) h.2, fun x hx y hy => ?_⟩
      obtain ⟨x, _, rfl⟩ := List.mem_map.1 hx
      obtain ⟨hy1, hy2⟩ := cmb_mem.1 hy
      cases y with
      | nil => cases hy2
      | cons b y =>
        have := h.1 b (hy1.subset List.mem_cons_self)
        simp only [lexB]
        rw [if_neg (by omega), decide_eq_true_eq]
        exact this
theorem idx_succ (n : Nat) : idx (n + 1) = idx n ++ [(n : Int)] := by unfold idx; rw [List.range_succ, List.map_append]; rfl
theorem idx_mem {n : Nat} {i : Int} : i ∈ idx n ↔ 0 ≤ i ∧ i < n := by
  unfold idx
  rw [List.mem_map]
  constructor
  · rintro ⟨k, hk, rfl⟩
    rw [List.mem_range] at hk
    omega
  · intro h
    exact ⟨i.toNat, by rw [List.mem_range]; omega, by omega⟩
theorem idx_sorted (n : Nat) : (idx n).Pairwise (· < ·) := by
  induction n with
  | zero => exact List.Pairwise.nil
  | succ n ih =>
    rw [idx_succ]
    refine List.pairwise_append.2 ⟨ih, List.pairwise_singleton _ _, fun x hx y hy => ?_⟩
    rw [List.mem_singleton] at hy
    have := idx_mem.1 hx
    omega
def fstL (P : List Int → Bool) (n : Nat) : Option (List Int) := (List.range (n + 1)).findSome? fun m => (cmb m (idx n)).find? P
theorem fs_none {β : Type} (f : Nat → Option β) : ∀ n, (∀ m, m < n → f m = none) → (List.range n).findSome? f = none := by
  intro n
  induction n with
  | zero => intro _; rfl
  | succ n ih =>
    intro h
    rw [List.range_succ, List.findSome?_append, ih fun m hm => h m (by omega)]
    simp [h n (by omega)]
theorem fs_some {β : Type} (f : Nat → Option β) {k : Nat} {x : β} (h0 : ∀ m, m < k → f m = none) (h1 : f k = some x) : ∀ n, k < n → (List.range n).findSome? f = some x := by
  intro n
  induction n with
  | zero => intro h; omega
  | succ n ih =>
    intro h
    rw [List.range_succ, List.findSome?_append]
    by_cases e : k = n
    · subst e
      rw [fs_none f k h0]
      simp [h1]
    · rw [ih (by omega)]
      rfl
def Best (P : List Int → Bool) (n : Nat) (x : List Int) : Prop := x.Sublist (idx n) ∧ P x = true ∧ ∀ y, y.Sublist (idx n) → P y = true → befB y x = false
theorem sub_len {n : Nat} {y : List Int} (h : y.Sublist (idx n)) : y.length ≤ n := by have := h.length_le; rwa [idx_len] at this
theorem fst_none {P : List Int → Bool} {n : Nat} (h : fstL P n = none) : ∀ y, y.Sublist (idx n) → P y = false := by
  intro y hy
  have := (List.findSome?_eq_none_iff.1 h) y.length (by rw [List.mem_range]; have := sub_len hy; omega)
  have := List.find?_eq_none.1 this y (cmb_mem.2 ⟨hy, rfl⟩)
  simpa using this
theorem fst_some {P : List Int → Bool} {n : Nat} {x : List Int} (h : fstL P n = some x) : Best P n x := by
  have hx : ∃ k, k < n + 1 ∧ (∀ m, m < k → (cmb m (idx n)).find? P = none) ∧ (cmb k (idx n)).find? P = some x := by
    refine Classical.byContradiction fun hc => ?_
    have : ∀ k, k ≤ n + 1 → ∀ m, m < k → (cmb m (idx n)).find? P = none := by
      intro k
      induction k with
      | zero => intro _ m hm; omega
      | succ k ih =>
        intro hk m hm
        by_cases e : m = k
        · subst e
          cases hf : (cmb m (idx n)).find? P with
          | none => rfl
          | some y =>
            have h1 := fs_some (fun m => (cmb m (idx n)).find? P) (ih (by omega)) hf (n + 1) (by omega)
            have h2 : some x = some y := h.symm.trans h1
            cases h2
            exact absurd ⟨m, by omega, ih (by omega), hf⟩ hc
        · exact ih (by omega) m (by omega)
    have := fs_none (fun m => (cmb m (idx n)).find? P) (n + 1) (this (n + 1) (Nat.le_refl _))
    rw [show fstL P n = none from this] at h
    cases h
  obtain ⟨k, hk, h0, h1⟩ := hx
  obtain ⟨hp, i, hi, hxi, hbef⟩ := List.find?_eq_some_iff_getElem.1 h1
  have hm := cmb_mem.1 (List.mem_of_find?_eq_some h1)
  refine ⟨hm.1, hp, fun y hy hP => ?_⟩
  unfold befB
  by_cases e : y.length = x.length
  · rw [if_pos e]
    have hy' : y ∈ cmb k (idx n) := cmb_mem.2 ⟨hy, by omega⟩
    obtain ⟨j, hj, rfl⟩ := List.getElem_of_mem hy'
    rcases Nat.lt_trichotomy j i with h3 | h3 | h3
    · have := hbef j h3
      rw [hP] at this
      cases this
    · subst h3
      rw [hxi]
      exact lexB_irr _
    · have := List.pairwise_iff_getElem.1 (cmb_sorted k (idx_sorted n)) i j hi hj h3
      rw [hxi] at this
      exact lexB_asym this
  · rw [if_neg e, decide_eq_false_iff_not]
    intro hlt
    have := List.find?_eq_none.1 (h0 y.length (by omega)) y (cmb_mem.2 ⟨hy, rfl⟩)
    exact this hP
def pick (p : Nat → Bool) (n : Nat) : List Int := ((List.range n).filter p).map fun (i : Nat) => (i : Int)
theorem pick_succ (p : Nat → Bool) (n : Nat) : pick p (n + 1) = pick p n ++ (if p n then [(n : Int)] else []) := by
  unfold pick
  rw [List.range_succ, List.filter_append, List.map_append]
  cases h : p n <;> simp [h]
theorem pick_sub (p : Nat → Bool) (n : Nat) : (pick p n).Sublist (idx n) := List.Sublist.map _ List.filter_sublist
theorem pick_congr {p q : Nat → Bool} {n : Nat} (h : ∀ i, i < n → p i = q i) : pick p n = pick q n := by
  unfold pick
  rw [List.filter_congr fun i hi => h i (List.mem_range.1 hi)]
theorem sub_pick : ∀ {n : Nat} {y : List Int}, y.Sublist (idx n) → ∃ s, s < 2 ^ n ∧ pick s.testBit n = y := by
  intro n
  induction n with
  | zero =>
    intro y h
    exact ⟨0, by decide, (List.sublist_nil.1 h).symm ▸ rfl⟩
  | succ n ih =>
    intro y h
    rw [idx_succ] at h
    obtain ⟨y1, y2, rfl, h1, h2⟩ := List.sublist_append_iff.1 h
    obtain ⟨s, hs, rfl⟩ := ih h1
    have hpow : 2 ^ (n + 1) = 2 ^ n + 2 ^ n := by rw [Nat.pow_succ]; omega
    have h2' : y2 = [] ∨ y2 = [(n : Int)] := by
      cases h2 with
      | cons _ h => exact .inl (List.sublist_nil.1 h)
      | cons_cons _ h => rw [List.sublist_nil.1 h]; exact .inr rfl
    rcases h2' with rfl | rfl
    · refine ⟨s, by omega, ?_⟩
      rw [pick_succ, Nat.testBit_lt_two_pow hs]
      rfl
    · refine ⟨2 ^ n + s, by omega, ?_⟩
      rw [pick_succ, Nat.testBit_two_pow_add_eq, Nat.testBit_lt_two_pow hs, pick_congr fun i hi => Nat.testBit_two_pow_add_gt hi s]
      rfl
end Go.Proofs.YtcnlbnccbnapbaaDoor

