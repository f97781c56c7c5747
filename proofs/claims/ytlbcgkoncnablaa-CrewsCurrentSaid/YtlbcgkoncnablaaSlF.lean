/- A part of a proof: the symbolic walk and what it shows of single functions. -/
import Derived.Test.YtlbcgkoncnablaaSlE
import Derived.Test.YtlbcgkoncnablaaSkV
set_option linter.all false
namespace Go.Proofs.Ytlbcgkoncnablaa
open Go.RowKit Go.SX
set_option maxRecDepth 10000
set_option maxHeartbeats 4000000
set_option linter.unusedSimpArgs false
set_option linter.unusedVariables false

def pl9_3 : Plan := (ones [0, 3, 6, 9] (.ld 1 (.ld 7 (.ld 10 (.pre 2 (.pre 5 (ones [2] (.kl 4 (ones [5] (.kl 8 (ones [11, 12, 13, 14, 15, 16] .fin)))))))))))
def pl9 : List (Nat × Plan) := [(3, pl9_3)]
theorem pl9_lk : (lkO 3 pl9 = some pl9_3) := rfl
theorem cur_len (good : List Int) (tick : Int) (n : Nat) : ∀ (l : List Pg) (s : List Int), (l.foldl (curStep good tick) s).length = s.length
  | [], s => rfl
  | p :: l, s => by rw [List.foldl_cons, cur_len good tick n l, curStep_len]

theorem cur_hands {hands : Int} {l : List Pg} {good : List Int} {tick : Int} (h : curE hands l good tick = 0) : hands ≤ 10 := by
  unfold curE at h
  split at h
  · split at h
    · rename_i h1
      exact (keptN_zero h1).2.1
    · rename_i h1
      exact absurd h h1
  · cases h

theorem crewsCurrent_fn (w : World) (v : Value) (l : List Pg) (hs : Sl w v 3 (cat pgc l)) (hands : Int) (vg : Value) (tick : Int) (good : List Int) (hg : Sl w vg 1 (ints good)) : SX.Fn Try.prog 9 [v, .agg #[I hands, vg, I tick]] w (fun _ => False) fun r N => r = .bool true := by
  obtain ⟨a, n, c, rfl⟩ := hs.shape
  obtain ⟨ag, ng, cg, rfl⟩ := hg.shape
  have hn := hs.le pgc_len (by omega)
  have hng := hg.le i1_len (by omega)
  by_cases hbig : (n : Int) > 202
  · have e0 : ((n : Int) > 202) = True := eq_true hbig
    refine walk [] [(3, (ones [0, 3, 6, 9] (.ld 1 (.ld 7 (.ld 10 (.pre 2 (.pre 5 (ones [2] (.kl 4 (ones [5] (.kl 8 (ones [11, 12, 13, 14, 15, 16] .fin))))))))))))] (det0_ok _ _) Try.func9 rfl Try.ntmps9 res9 (by kernel_rfl) no_facts ?_
    simp (config := { maxSteps := 4000000 }) only [↓sx0, ↓sx1, ↓sx2, ↓sx3, ↓sx4, ↓sx5, ↓sx6, sx0, sx1, sx2, sx3, sx4, sx5, sx6, tf9, ev3_hold, sxo, sxc, sxp, sxq, sxr, sxs, sxl, sxm, Int.reduceBEq, Int.reduceBNe, Int.reduceLT, Int.reduceLE, Int.reduceEq, Int.reduceGT, Int.reduceGE, Int.reduceToNat, ↓reduceIte, List.reduceReplicate, Nat.reduceAdd, Nat.reduceSub, Nat.reduceMul, Nat.reduceLT, Nat.reduceLeDiff, Nat.reduceBEq, Nat.reduceEqDiff, e0, det0]
    refine CallOb.pureH (fun w' hp' => works_fn w') ?_
    rintro r N rfl
    refine ⟨?_⟩
    simp (config := { maxSteps := 4000000 }) only [↓sx0, ↓sx1, ↓sx2, ↓sx3, ↓sx4, ↓sx5, ↓sx6, sx0, sx1, sx2, sx3, sx4, sx5, sx6, tf9, ev3_hold, sxo, sxc, sxp, sxq, sxr, sxs, sxl, sxm, Int.reduceBEq, Int.reduceBNe, Int.reduceLT, Int.reduceLE, Int.reduceEq, Int.reduceGT, Int.reduceGE, Int.reduceToNat, ↓reduceIte, List.reduceReplicate, Nat.reduceAdd, Nat.reduceSub, Nat.reduceMul, Nat.reduceLT, Nat.reduceLeDiff, Nat.reduceBEq, Nat.reduceEqDiff]
  have e0 : ((n : Int) > 202) = False := eq_false hbig
  by_cases hbig2 : (ng : Int) > 20
  · have e1 : ((ng : Int) > 20) = True := eq_true hbig2
    refine walk [] [(3, (ones [0, 3, 6, 9] (.ld 1 (.ld 7 (.ld 10 (.pre 2 (.pre 5 (ones [2] (.kl 4 (ones [5] (.kl 8 (ones [11, 12, 13, 14, 15, 16] .fin))))))))))))] (det0_ok _ _) Try.func9 rfl Try.ntmps9 res9 (by kernel_rfl) no_facts ?_
    simp (config := { maxSteps := 4000000 }) only [↓sx0, ↓sx1, ↓sx2, ↓sx3, ↓sx4, ↓sx5, ↓sx6, sx0, sx1, sx2, sx3, sx4, sx5, sx6, tf9, ev3_hold, sxo, sxc, sxp, sxq, sxr, sxs, sxl, sxm, Int.reduceBEq, Int.reduceBNe, Int.reduceLT, Int.reduceLE, Int.reduceEq, Int.reduceGT, Int.reduceGE, Int.reduceToNat, ↓reduceIte, List.reduceReplicate, Nat.reduceAdd, Nat.reduceSub, Nat.reduceMul, Nat.reduceLT, Nat.reduceLeDiff, Nat.reduceBEq, Nat.reduceEqDiff, e0, e1, det0]
    refine CallOb.pureH (fun w' hp' => works_fn w') ?_
    rintro r N rfl
    refine ⟨?_⟩
    simp (config := { maxSteps := 4000000 }) only [↓sx0, ↓sx1, ↓sx2, ↓sx3, ↓sx4, ↓sx5, ↓sx6, sx0, sx1, sx2, sx3, sx4, sx5, sx6, tf9, ev3_hold, sxo, sxc, sxp, sxq, sxr, sxs, sxl, sxm, Int.reduceBEq, Int.reduceBNe, Int.reduceLT, Int.reduceLE, Int.reduceEq, Int.reduceGT, Int.reduceGE, Int.reduceToNat, ↓reduceIte, List.reduceReplicate, Nat.reduceAdd, Nat.reduceSub, Nat.reduceMul, Nat.reduceLT, Nat.reduceLeDiff, Nat.reduceBEq, Nat.reduceEqDiff]
  have e1 : ((ng : Int) > 20) = False := eq_false hbig2
  have hb : l.length ≤ 1099511627776 := by omega
  have hgb : good.length ≤ 1099511627776 := by omega
  have hl1 : (curL hands l good tick).length ≤ 1099511627776 := by
    unfold curL
    split
    · rename_i h0
      rw [cur_len (n := 0), List.length_replicate]
      have := cur_hands h0
      omega
    · simp
  refine walk [] pl9 (det0_ok _ _) Try.func9 rfl Try.ntmps9 res9 (by kernel_rfl) no_facts ?_
  simp (config := { maxSteps := 4000000 }) only [↓sx0, ↓sx1, ↓sx2, ↓sx3, ↓sx4, ↓sx5, ↓sx6, sx0, sx1, sx2, sx3, sx4, sx5, sx6, tf9, ev3_hold, sxo, sxc, sxp, sxq, sxr, sxs, sxl, sxm, Int.reduceBEq, Int.reduceBNe, Int.reduceLT, Int.reduceLE, Int.reduceEq, Int.reduceGT, Int.reduceGE, Int.reduceToNat, ↓reduceIte, List.reduceReplicate, Nat.reduceAdd, Nat.reduceSub, Nat.reduceMul, Nat.reduceLT, Nat.reduceLeDiff, Nat.reduceBEq, Nat.reduceEqDiff, e0, e1, det0, pl9_lk, pl9_3]
  intro b0
  refine app_at (f := pgc) (l := []) (m := l) (HImp.refl _ _) pgc_len (fun p => by simp [pgc, Value.oneCell']) (fun w' hp' => hs.hp (fun _ _ => id) hp') (bytes := 24) (by simp only [List.length_nil]; omega) ?_
  intro ad c2 hnil
  rw [List.nil_append, List.length_nil, Nat.zero_add, hn]
  simp (config := { maxSteps := 4000000 }) only [↓sx0, ↓sx1, ↓sx2, ↓sx3, ↓sx4, ↓sx5, ↓sx6, sx0, sx1, sx2, sx3, sx4, sx5, sx6, tf9, ev3_hold, sxo, sxc, sxp, sxq, sxr, sxs, sxl, sxm, Int.reduceBEq, Int.reduceBNe, Int.reduceLT, Int.reduceLE, Int.reduceEq, Int.reduceGT, Int.reduceGE, Int.reduceToNat, ↓reduceIte, List.reduceReplicate, Nat.reduceAdd, Nat.reduceSub, Nat.reduceMul, Nat.reduceLT, Nat.reduceLeDiff, Nat.reduceBEq, Nat.reduceEqDiff, pl9_lk, pl9_3]
  intro b1
  refine app_at (f := i1) (l := []) (m := good) (HImp.refl _ _) i1_len (fun p => by simp [i1, Value.oneCell']) (fun w' hp' => hg.hp (fun _ _ => id) hp') (bytes := 8) (by simp only [List.length_nil]; omega) ?_
  intro ad3 c3 hnil2
  rw [List.nil_append, List.length_nil, Nat.zero_add, hng]
  simp (config := { maxSteps := 4000000 }) only [↓sx0, ↓sx1, ↓sx2, ↓sx3, ↓sx4, ↓sx5, ↓sx6, sx0, sx1, sx2, sx3, sx4, sx5, sx6, tf9, ev3_hold, sxo, sxc, sxp, sxq, sxr, sxs, sxl, sxm, Int.reduceBEq, Int.reduceBNe, Int.reduceLT, Int.reduceLE, Int.reduceEq, Int.reduceGT, Int.reduceGE, Int.reduceToNat, ↓reduceIte, List.reduceReplicate, Nat.reduceAdd, Nat.reduceSub, Nat.reduceMul, Nat.reduceLT, Nat.reduceLeDiff, Nat.reduceBEq, Nat.reduceEqDiff, pl9_lk, pl9_3, det0]
  refine CallOb.pureH (fun w' hp' => current_fn w' hands tick _ l (row_hp (E := 106) (by simp) hp') _ good (row_hp (E := 3) (by simp) hp') hgb) ?_
  rintro r N1 ⟨x1, rfl, g1⟩
  refine ⟨?_⟩
  simp (config := { maxSteps := 4000000 }) only [↓sx0, ↓sx1, ↓sx2, ↓sx3, ↓sx4, ↓sx5, ↓sx6, sx0, sx1, sx2, sx3, sx4, sx5, sx6, tf9, ev3_hold, sxo, sxc, sxp, sxq, sxr, sxs, sxl, sxm, Int.reduceBEq, Int.reduceBNe, Int.reduceLT, Int.reduceLE, Int.reduceEq, Int.reduceGT, Int.reduceGE, Int.reduceToNat, ↓reduceIte, List.reduceReplicate, Nat.reduceAdd, Nat.reduceSub, Nat.reduceMul, Nat.reduceLT, Nat.reduceLeDiff, Nat.reduceBEq, Nat.reduceEqDiff, det0]
  refine CallOb.pureH (fun w' hp' => rcurrent_fn w' hands tick _ l (hs.hp (fun _ _ => id) hp') _ good (hg.hp (fun _ _ => id) hp') hgb) ?_
  rintro r N2 ⟨x2, rfl, g2⟩
  refine ⟨?_⟩
  simp (config := { maxSteps := 4000000 }) only [↓sx0, ↓sx1, ↓sx2, ↓sx3, ↓sx4, ↓sx5, ↓sx6, sx0, sx1, sx2, sx3, sx4, sx5, sx6, tf9, ev3_hold, sxo, sxc, sxp, sxq, sxr, sxs, sxl, sxm, Int.reduceBEq, Int.reduceBNe, Int.reduceLT, Int.reduceLE, Int.reduceEq, Int.reduceGT, Int.reduceGE, Int.reduceToNat, ↓reduceIte, List.reduceReplicate, Nat.reduceAdd, Nat.reduceSub, Nat.reduceMul, Nat.reduceLT, Nat.reduceLeDiff, Nat.reduceBEq, Nat.reduceEqDiff, det0]
  refine CallOb.pureH (fun w' hp' => same_fn w' _ _ _ _ (g1.hp (by simp +contextual) hp') (g2.hp (by simp +contextual) hp') hl1) ?_
  rintro r N5 rfl
  refine ⟨?_⟩
  simp (config := { maxSteps := 4000000 }) only [↓sx0, ↓sx1, ↓sx2, ↓sx3, ↓sx4, ↓sx5, ↓sx6, sx0, sx1, sx2, sx3, sx4, sx5, sx6, tf9, ev3_hold, sxo, sxc, sxp, sxq, sxr, sxs, sxl, sxm, Int.reduceBEq, Int.reduceBNe, Int.reduceLT, Int.reduceLE, Int.reduceEq, Int.reduceGT, Int.reduceGE, Int.reduceToNat, ↓reduceIte, List.reduceReplicate, Nat.reduceAdd, Nat.reduceSub, Nat.reduceMul, Nat.reduceLT, Nat.reduceLeDiff, Nat.reduceBEq, Nat.reduceEqDiff, det0]
  refine CallOb.pureH (fun w' hp' => works_fn w') ?_
  rintro r N rfl
  refine ⟨?_⟩
  simp (config := { maxSteps := 4000000 }) only [↓sx0, ↓sx1, ↓sx2, ↓sx3, ↓sx4, ↓sx5, ↓sx6, sx0, sx1, sx2, sx3, sx4, sx5, sx6, tf9, ev3_hold, sxo, sxc, sxp, sxq, sxr, sxs, sxl, sxm, Int.reduceBEq, Int.reduceBNe, Int.reduceLT, Int.reduceLE, Int.reduceEq, Int.reduceGT, Int.reduceGE, Int.reduceToNat, ↓reduceIte, List.reduceReplicate, Nat.reduceAdd, Nat.reduceSub, Nat.reduceMul, Nat.reduceLT, Nat.reduceLeDiff, Nat.reduceBEq, Nat.reduceEqDiff]

end Go.Proofs.Ytlbcgkoncnablaa
