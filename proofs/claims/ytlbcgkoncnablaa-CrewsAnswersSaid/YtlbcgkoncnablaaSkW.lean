/- A part of a proof: the symbolic walk and what it shows of single functions. -/
import Derived.Test.YtlbcgkoncnablaaSkV
set_option linter.all false
namespace Go.Proofs.Ytlbcgkoncnablaa
open Go.RowKit Go.SX
set_option maxRecDepth 10000
set_option maxHeartbeats 4000000
set_option linter.unusedSimpArgs false
set_option linter.unusedVariables false

theorem crewsAnswers_fn (w : World) (hands : Int) (v : Value) (l : List Pg) (hs : Sl w v 3 (cat pgc l)) (lo hi : Int) : SX.Fn Try.prog 8 [I hands, v, .agg #[I lo, I hi]] w (fun _ => False) fun r N => r = .bool true := by
  obtain ⟨a, n, c, rfl⟩ := hs.shape
  have hn := hs.le pgc_len (by omega)
  by_cases hbig : (n : Int) > 202
  · have e0 : ((n : Int) > 202) = True := eq_true hbig
    refine walk [] [] (det0_ok _ _) Try.func8 rfl Try.ntmps8 res8 (by kernel_rfl) no_facts ?_
    simp (config := { maxSteps := 4000000 }) only [↓sx0, ↓sx1, ↓sx2, ↓sx3, ↓sx4, ↓sx5, ↓sx6, sx0, sx1, sx2, sx3, sx4, sx5, sx6, tf8, ev3_hold, sxo, sxc, sxp, sxq, sxr, sxs, sxl, sxm, Int.reduceBEq, Int.reduceBNe, Int.reduceLT, Int.reduceLE, Int.reduceEq, Int.reduceGT, Int.reduceGE, Int.reduceToNat, ↓reduceIte, List.reduceReplicate, Nat.reduceAdd, Nat.reduceSub, Nat.reduceMul, Nat.reduceLT, Nat.reduceLeDiff, Nat.reduceBEq, Nat.reduceEqDiff, e0, det0]
    refine CallOb.pureH (fun w' hp' => works_fn w') ?_
    rintro r N rfl
    refine ⟨?_⟩
    simp (config := { maxSteps := 4000000 }) only [↓sx0, ↓sx1, ↓sx2, ↓sx3, ↓sx4, ↓sx5, ↓sx6, sx0, sx1, sx2, sx3, sx4, sx5, sx6, tf8, ev3_hold, sxo, sxc, sxp, sxq, sxr, sxs, sxl, sxm, Int.reduceBEq, Int.reduceBNe, Int.reduceLT, Int.reduceLE, Int.reduceEq, Int.reduceGT, Int.reduceGE, Int.reduceToNat, ↓reduceIte, List.reduceReplicate, Nat.reduceAdd, Nat.reduceSub, Nat.reduceMul, Nat.reduceLT, Nat.reduceLeDiff, Nat.reduceBEq, Nat.reduceEqDiff]
  have e0 : ((n : Int) > 202) = False := eq_false hbig
  have hb : l.length ≤ 1099511627776 := by omega
  have d1 : (if pagedN hands lo l = 0 then ansL hands lo l else []) = (if pagedN hands lo l = 0 then rpA hands lo l else []) := by
    by_cases h0 : pagedN hands lo l = 0
    · rw [if_pos h0, if_pos h0, ans_eq (pagedN_zero h0).2]
    · rw [if_neg h0, if_neg h0]
  have d2 : againL hands lo hi l = (if againN hands lo hi l = 0 then raL lo hi (fun h => rpV l h lo) hands.toNat else []) := by
    unfold againL
    by_cases h0 : againN hands lo hi l = 0
    · have hz : pagedN hands lo l = 0 := by
        unfold againN at h0
        split at h0
        · exact h0
        · omega
      rw [if_pos h0, if_pos h0, again_eq (pagedN_zero hz).2]
    · rw [if_neg h0, if_neg h0]
  have hl1 : (if pagedN hands lo l = 0 then ansL hands lo l else []).length ≤ 1099511627776 := by
    split
    · rename_i h0
      have := keptN_zero (pagedN_zero h0).1
      rw [ansL, List.length_map, pgRun_len, pgNone, List.length_replicate]
      omega
    · simp
  have hl2 : (if againN hands lo hi l = 0 then raL lo hi (fun h => rpV l h lo) hands.toNat else []).length ≤ 1099511627776 := by
    split
    · rename_i h0
      have hz : pagedN hands lo l = 0 := by
        unfold againN at h0
        split at h0
        · exact h0
        · omega
      have := keptN_zero (pagedN_zero hz).1
      have := raL_len lo hi (fun h => rpV l h lo) hands.toNat
      omega
    · simp
  generalize hA : (if pagedN hands lo l = 0 then ansL hands lo l else []) = A at d1 hl1
  generalize hB : againL hands lo hi l = B at d2
  rw [← d2] at hl2
  refine walk [] [] (det0_ok _ _) Try.func8 rfl Try.ntmps8 res8 (by kernel_rfl) no_facts ?_
  simp (config := { maxSteps := 4000000 }) only [↓sx0, ↓sx1, ↓sx2, ↓sx3, ↓sx4, ↓sx5, ↓sx6, sx0, sx1, sx2, sx3, sx4, sx5, sx6, tf8, ev3_hold, sxo, sxc, sxp, sxq, sxr, sxs, sxl, sxm, Int.reduceBEq, Int.reduceBNe, Int.reduceLT, Int.reduceLE, Int.reduceEq, Int.reduceGT, Int.reduceGE, Int.reduceToNat, ↓reduceIte, List.reduceReplicate, Nat.reduceAdd, Nat.reduceSub, Nat.reduceMul, Nat.reduceLT, Nat.reduceLeDiff, Nat.reduceBEq, Nat.reduceEqDiff, e0, det0]
  intro b0
  refine app_at (f := pgc) (l := []) (m := l) (HImp.refl _ _) pgc_len (fun p => by simp [pgc, Value.oneCell']) (fun w' hp' => hs.hp (fun _ _ => id) hp') (bytes := 24) (by simp only [List.length_nil]; omega) ?_
  intro ad c2 hnil
  rw [List.nil_append, List.length_nil, Nat.zero_add, hn]
  simp (config := { maxSteps := 4000000 }) only [↓sx0, ↓sx1, ↓sx2, ↓sx3, ↓sx4, ↓sx5, ↓sx6, sx0, sx1, sx2, sx3, sx4, sx5, sx6, tf8, ev3_hold, sxo, sxc, sxp, sxq, sxr, sxs, sxl, sxm, Int.reduceBEq, Int.reduceBNe, Int.reduceLT, Int.reduceLE, Int.reduceEq, Int.reduceGT, Int.reduceGE, Int.reduceToNat, ↓reduceIte, List.reduceReplicate, Nat.reduceAdd, Nat.reduceSub, Nat.reduceMul, Nat.reduceLT, Nat.reduceLeDiff, Nat.reduceBEq, Nat.reduceEqDiff, det0]
  refine CallOb.pureH (fun w' hp' => answers_fn w' hands lo _ l (row_hp List.mem_cons_self hp') hb) ?_
  rintro r N1 ⟨x1, rfl, g1⟩
  rw [hA] at g1
  refine ⟨?_⟩
  simp (config := { maxSteps := 4000000 }) only [↓sx0, ↓sx1, ↓sx2, ↓sx3, ↓sx4, ↓sx5, ↓sx6, sx0, sx1, sx2, sx3, sx4, sx5, sx6, tf8, ev3_hold, sxo, sxc, sxp, sxq, sxr, sxs, sxl, sxm, Int.reduceBEq, Int.reduceBNe, Int.reduceLT, Int.reduceLE, Int.reduceEq, Int.reduceGT, Int.reduceGE, Int.reduceToNat, ↓reduceIte, List.reduceReplicate, Nat.reduceAdd, Nat.reduceSub, Nat.reduceMul, Nat.reduceLT, Nat.reduceLeDiff, Nat.reduceBEq, Nat.reduceEqDiff, det0]
  refine CallOb.pureH (fun w' hp' => ranswers_fn w' hands lo _ l (hs.hp (fun _ _ => id) hp') hb) ?_
  rintro r N2 ⟨x2, rfl, g2⟩
  rw [← d1] at g2
  refine ⟨?_⟩
  simp (config := { maxSteps := 4000000 }) only [↓sx0, ↓sx1, ↓sx2, ↓sx3, ↓sx4, ↓sx5, ↓sx6, sx0, sx1, sx2, sx3, sx4, sx5, sx6, tf8, ev3_hold, sxo, sxc, sxp, sxq, sxr, sxs, sxl, sxm, Int.reduceBEq, Int.reduceBNe, Int.reduceLT, Int.reduceLE, Int.reduceEq, Int.reduceGT, Int.reduceGE, Int.reduceToNat, ↓reduceIte, List.reduceReplicate, Nat.reduceAdd, Nat.reduceSub, Nat.reduceMul, Nat.reduceLT, Nat.reduceLeDiff, Nat.reduceBEq, Nat.reduceEqDiff, det0]
  refine CallOb.pureH (fun w' hp' => again_fn w' hands lo hi _ l (row_hp (E := 51) (by simp) hp') hb) ?_
  rintro r N3 ⟨x3, rfl, g3⟩
  rw [hB] at g3
  refine ⟨?_⟩
  simp (config := { maxSteps := 4000000 }) only [↓sx0, ↓sx1, ↓sx2, ↓sx3, ↓sx4, ↓sx5, ↓sx6, sx0, sx1, sx2, sx3, sx4, sx5, sx6, tf8, ev3_hold, sxo, sxc, sxp, sxq, sxr, sxs, sxl, sxm, Int.reduceBEq, Int.reduceBNe, Int.reduceLT, Int.reduceLE, Int.reduceEq, Int.reduceGT, Int.reduceGE, Int.reduceToNat, ↓reduceIte, List.reduceReplicate, Nat.reduceAdd, Nat.reduceSub, Nat.reduceMul, Nat.reduceLT, Nat.reduceLeDiff, Nat.reduceBEq, Nat.reduceEqDiff, det0]
  refine CallOb.pureH (fun w' hp' => ragain_fn w' hands lo hi _ l (hs.hp (fun _ _ => id) hp') hb) ?_
  rintro r N4 ⟨x4, rfl, g4⟩
  rw [← d2] at g4
  refine ⟨?_⟩
  simp (config := { maxSteps := 4000000 }) only [↓sx0, ↓sx1, ↓sx2, ↓sx3, ↓sx4, ↓sx5, ↓sx6, sx0, sx1, sx2, sx3, sx4, sx5, sx6, tf8, ev3_hold, sxo, sxc, sxp, sxq, sxr, sxs, sxl, sxm, Int.reduceBEq, Int.reduceBNe, Int.reduceLT, Int.reduceLE, Int.reduceEq, Int.reduceGT, Int.reduceGE, Int.reduceToNat, ↓reduceIte, List.reduceReplicate, Nat.reduceAdd, Nat.reduceSub, Nat.reduceMul, Nat.reduceLT, Nat.reduceLeDiff, Nat.reduceBEq, Nat.reduceEqDiff, det0]
  refine CallOb.pureH (fun w' hp' => same_fn w' _ _ A A (g1.hp (by simp +contextual) hp') (g2.hp (by simp +contextual) hp') hl1) ?_
  rintro r N5 rfl
  refine ⟨?_⟩
  simp (config := { maxSteps := 4000000 }) only [↓sx0, ↓sx1, ↓sx2, ↓sx3, ↓sx4, ↓sx5, ↓sx6, sx0, sx1, sx2, sx3, sx4, sx5, sx6, tf8, ev3_hold, sxo, sxc, sxp, sxq, sxr, sxs, sxl, sxm, Int.reduceBEq, Int.reduceBNe, Int.reduceLT, Int.reduceLE, Int.reduceEq, Int.reduceGT, Int.reduceGE, Int.reduceToNat, ↓reduceIte, List.reduceReplicate, Nat.reduceAdd, Nat.reduceSub, Nat.reduceMul, Nat.reduceLT, Nat.reduceLeDiff, Nat.reduceBEq, Nat.reduceEqDiff, det0]
  refine CallOb.pureH (fun w' hp' => same_fn w' _ _ B B (g3.hp (by simp +contextual) hp') (g4.hp (by simp +contextual) hp') hl2) ?_
  rintro r N6 rfl
  refine ⟨?_⟩
  simp (config := { maxSteps := 4000000 }) only [↓sx0, ↓sx1, ↓sx2, ↓sx3, ↓sx4, ↓sx5, ↓sx6, sx0, sx1, sx2, sx3, sx4, sx5, sx6, tf8, ev3_hold, sxo, sxc, sxp, sxq, sxr, sxs, sxl, sxm, Int.reduceBEq, Int.reduceBNe, Int.reduceLT, Int.reduceLE, Int.reduceEq, Int.reduceGT, Int.reduceGE, Int.reduceToNat, ↓reduceIte, List.reduceReplicate, Nat.reduceAdd, Nat.reduceSub, Nat.reduceMul, Nat.reduceLT, Nat.reduceLeDiff, Nat.reduceBEq, Nat.reduceEqDiff, det0]
  refine CallOb.pureH (fun w' hp' => works_fn w') ?_
  rintro r N rfl
  refine ⟨?_⟩
  simp (config := { maxSteps := 4000000 }) only [↓sx0, ↓sx1, ↓sx2, ↓sx3, ↓sx4, ↓sx5, ↓sx6, sx0, sx1, sx2, sx3, sx4, sx5, sx6, tf8, ev3_hold, sxo, sxc, sxp, sxq, sxr, sxs, sxl, sxm, Int.reduceBEq, Int.reduceBNe, Int.reduceLT, Int.reduceLE, Int.reduceEq, Int.reduceGT, Int.reduceGE, Int.reduceToNat, ↓reduceIte, List.reduceReplicate, Nat.reduceAdd, Nat.reduceSub, Nat.reduceMul, Nat.reduceLT, Nat.reduceLeDiff, Nat.reduceBEq, Nat.reduceEqDiff]

end Go.Proofs.Ytlbcgkoncnablaa
