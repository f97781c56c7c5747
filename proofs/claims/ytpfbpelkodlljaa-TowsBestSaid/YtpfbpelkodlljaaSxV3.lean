/- A part of a proof: the symbolic walk and what it shows of single functions. -/
import Derived.Test.YtpfbpelkodlljaaSxV2
set_option linter.all false
namespace Go.Proofs.Ytpfbpelkodlljaa
open Go.RowKit Go.SX
set_option maxRecDepth 4000
set_option maxHeartbeats 4000000
set_option linter.unusedSimpArgs false
set_option linter.unusedVariables false

/-! ### What is known of a train in old memory -/

open Classical in
noncomputable def detF (v : Value) (us : List Tw) : Nat → List Value → Option Value
  | 15, xs => if xs = [.agg #[v]] then some (I (if trainB us then 0 else 90)) else none
  | 24, xs => if xs = [.agg #[v]] then some (I (if trainB us then 0 else 90)) else none
  | 50, [.agg ⟨[.int .i64 _, .int .i64 _, .int .i64 c]⟩, .int .i64 f] => some (.bool (decide (f ≤ c)))
  | 51, [.agg ⟨[.int .i64 a, .int .i64 b, .int .i64 _]⟩, .int .i64 f, .int .i64 d] => some (.bool (hangsB a b f d))
  | 31, [.int .i64 n] => some (.bool (inB n 1 20))
  | 53, [.agg ⟨[.int .i64 _, .int .i64 _, .int .i64 c]⟩, .int .i64 d] => some (I (spdGo c d 20))
  | 58, [.agg ⟨[.int .i64 a, .int .i64 b, .int .i64 c]⟩, .int .i64 v, .int .i64 d] => if wr (v * v) ≠ 0 ∧ (b > 0 → d ≠ 0 → wr (wr (wr (8 * v) * v) * d) ≠ 0) then some (.tuple #[.agg #[I (boundsV a b c v d).1.1, I (boundsV a b c v d).1.2], .bool (boundsV a b c v d).2]) else none
  | 21, [.agg ⟨[.int .i64 h, .int .i64 m, .int .i64 a, .int .i64 s, .int .i64 _, .int .i64 _]⟩, .agg ⟨[.int .i64 wt, .int .i64 wg, .int .i64 at', .int .i64 _, .int .i64 _]⟩, .int .i64 tn] => some (.bool (dryB h m a s wt at' wg tn))
  | g, xs => detE g xs

theorem detF_ok {v : Value} {us : List Tw} {w0 : World} {X : Nat → Prop} (hs : Sl w0 v 5 (twcs us)) (hX : ∀ b, rsl w0 v b → ¬ X b) : DetFn Try.prog ⟨w0, X⟩ (detF v us) := by
  intro g args r h w hk
  obtain ⟨a, n, c, rfl⟩ := hs.shape
  have hn := hs.le (f := twc) twc_len (by omega)
  have hs' := hs.keepR hk hX
  unfold detF at h
  split at h
  · split at h
    · subst_vars
      cases h
      exact det_of_fn' (check1_fn w a _ c us hs' rfl)
    · cases h
  · split at h
    · subst_vars
      cases h
      exact det_of_fn' (check2_fn w a _ c us hs' rfl)
    · cases h
  · cases h
    exact det_of_fn' (holds_fn w _ _ _ _)
  · cases h
    exact det_of_fn' (hangs_fn w _ _ _ _ _)
  · cases h
    exact det_of_fn' (isSpeed_fn w _)
  · cases h
    exact det_of_fn' (speed_fn w _ _ _ _)
  · split at h
    · rename_i hc
      cases h
      exact det_of_fn' (bounds_fn w _ _ _ _ _ hc.1 hc.2)
    · cases h
  · cases h
    exact det_of_fn' (ldry_fn w _ _ _ _ _ _ _ _ _ _ _ _)
  · exact detE_ok w0 X _ _ _ h w hk

theorem detF_eq (v : Value) (us : List Tw) : (detF v us 15 [.agg #[v]] = some (I (if trainB us then 0 else 90))) ∧ (detF v us 24 [.agg #[v]] = some (I (if trainB us then 0 else 90))) ∧
    (∀ a b c f, detF v us 50 [.agg #[I a, I b, I c], I f] = some (.bool (decide (f ≤ c)))) ∧
    (∀ a b c f d, detF v us 51 [.agg #[I a, I b, I c], I f, I d] = some (.bool (hangsB a b f d))) ∧
    (∀ n, detF v us 31 [I n] = some (.bool (inB n 1 20))) ∧
    (∀ a b c d, detF v us 53 [.agg #[I a, I b, I c], I d] = some (I (spdGo c d 20))) ∧
    (∀ h m a s lo hi wt wg at' t0 st tn, detF v us 21 [.agg #[I h, I m, I a, I s, I lo, I hi], .agg #[I wt, I wg, I at', I t0, I st], I tn] = some (.bool (dryB h m a s wt at' wg tn))) ∧
    (∀ n l h : Int, detF v us 39 [I n, I l, I h] = some (.bool (inB n l h))) ∧ (∀ n l h : Int, detF v us 40 [I n, I l, I h] = some (.bool (inB n l h))) :=
  ⟨by simp [detF], by simp [detF], fun _ _ _ _ => rfl, fun _ _ _ _ _ => rfl, fun _ => rfl, fun _ _ _ _ => rfl, fun _ _ _ _ _ _ _ _ _ _ _ _ => rfl, fun _ _ _ => rfl, fun _ _ _ => rfl⟩

theorem detF_bounds (us : List Tw) (s : Value) {a b c v d : Int} (h1 : wr (v * v) ≠ 0) (h2 : b > 0 → d ≠ 0 → wr (wr (wr (8 * v) * v) * d) ≠ 0) :
    detF s us 58 [.agg #[I a, I b, I c], I v, I d] = some (.tuple #[.agg #[I (boundsV a b c v d).1.1, I (boundsV a b c v d).1.2], .bool (boundsV a b c v d).2]) :=
  if_pos ⟨h1, h2⟩

def longB (us : List Tw) : Bool := decide (us.length > 10) || (trainB us && decide (us.length > 5))

theorem long_fn (w : World) (v : Value) (us : List Tw) (hs : Sl w v 5 (twcs us)) : SX.Fn Try.prog 14 [.agg #[v]] w (fun _ => False) fun r N => r = .bool (longB us) := by
  obtain ⟨a, n, c, rfl⟩ := hs.shape
  have hn := hs.le (f := twc) twc_len (by omega)
  have hD := detF_ok (X := fun _ => False) hs (fun _ _ => id)
  refine walk [] [] hD Try.func14 rfl Try.ntmps14 res14 (by kernel_rfl) no_facts ?_
  by_cases ht : trainB us = true
  · simp (config := { maxSteps := 4000000 }) only [↓sx0, ↓sx1, ↓sx2, ↓sx3, ↓sx4, ↓sx5, ↓sx6, sx0, sx1, sx2, sx3, sx4, sx5, sx6, tf14, ev3_hold, sxo, List.all_cons, List.all_nil, Bool.not_eq_true', Bool.not_eq_false', and_self, Bool.false_eq_true, Bool.true_eq_false, false_implies, true_and, and_true, bne_self_eq_false, beq_self_eq_true, Int.reduceBEq, Int.reduceBNe, Int.reduceLT, Int.reduceLE, Int.reduceEq, Int.reduceToNat, Int.toNat_natCast, beq_iff_eq, bne_iff_ne, beq_eq_false_iff_ne, bne_eq_false_iff_eq, Decidable.not_not, ↓reduceIte, if_true, if_false, List.map_cons, List.map_nil, List.reduceReplicate, List.nil_append, List.cons_append, List.append_nil, List.length_cons, List.length_nil, Nat.reduceAdd, Nat.reduceSub, Nat.reduceMul, Nat.reduceLT, Nat.reduceLeDiff, Nat.reduceBEq, Nat.reduceEqDiff, decide_true, decide_false, decide_eq_true_eq, decide_eq_false_iff_not, Bool.and_true, Bool.true_and, Bool.and_false, Bool.false_and, Bool.or_true, Bool.true_or, Bool.or_false, Bool.false_or, Bool.not_true, Bool.not_false, sxc, List.getElem?_cons_zero, List.getElem?_cons_succ, List.drop_zero, List.drop_succ_cons, List.take_zero, List.take_succ_cons, List.zip_cons_cons, List.zip_nil_right, List.toList_toArray, Nat.zero_add, Option.map_some, Option.map_none, Option.isSome_some, true_and, and_true, forall_const, ne_eq, not_false_eq_true, true_implies, implies_true, detF_eq, ht]
    refine ⟨fun h1 => ?_, fun h1 => ?_⟩
    · have e1 : decide (us.length > 10) = false := decide_eq_false (by omega)
      have e2 : decide ((n : Int) > 5) = decide (us.length > 5) := by rw [decide_eq_decide]; omega
      simp [longB, e1, e2, ht]
    · have e1 : decide (us.length > 10) = true := decide_eq_true (by omega)
      simp [longB, e1]
  · simp (config := { maxSteps := 4000000 }) only [↓sx0, ↓sx1, ↓sx2, ↓sx3, ↓sx4, ↓sx5, ↓sx6, sx0, sx1, sx2, sx3, sx4, sx5, sx6, tf14, ev3_hold, sxo, List.all_cons, List.all_nil, Bool.not_eq_true', Bool.not_eq_false', and_self, Bool.false_eq_true, Bool.true_eq_false, false_implies, true_and, and_true, bne_self_eq_false, beq_self_eq_true, Int.reduceBEq, Int.reduceBNe, Int.reduceLT, Int.reduceLE, Int.reduceEq, Int.reduceToNat, Int.toNat_natCast, beq_iff_eq, bne_iff_ne, beq_eq_false_iff_ne, bne_eq_false_iff_eq, Decidable.not_not, ↓reduceIte, if_true, if_false, List.map_cons, List.map_nil, List.reduceReplicate, List.nil_append, List.cons_append, List.append_nil, List.length_cons, List.length_nil, Nat.reduceAdd, Nat.reduceSub, Nat.reduceMul, Nat.reduceLT, Nat.reduceLeDiff, Nat.reduceBEq, Nat.reduceEqDiff, decide_true, decide_false, decide_eq_true_eq, decide_eq_false_iff_not, Bool.and_true, Bool.true_and, Bool.and_false, Bool.false_and, Bool.or_true, Bool.true_or, Bool.or_false, Bool.false_or, Bool.not_true, Bool.not_false, sxc, List.getElem?_cons_zero, List.getElem?_cons_succ, List.drop_zero, List.drop_succ_cons, List.take_zero, List.take_succ_cons, List.zip_cons_cons, List.zip_nil_right, List.toList_toArray, Nat.zero_add, Option.map_some, Option.map_none, Option.isSome_some, true_and, and_true, forall_const, ne_eq, not_false_eq_true, true_implies, implies_true, detF_eq, ht]
    refine ⟨fun h1 => ?_, fun h1 => ?_⟩
    · have e1 : decide (us.length > 10) = false := decide_eq_false (by omega)
      simp [longB, e1, ht]
    · have e1 : decide (us.length > 10) = true := decide_eq_true (by omega)
      simp [longB, e1]

theorem twc_one (u : Tw) : ∀ y ∈ twc u, y.oneCell' = true := by simp [twc, Value.oneCell']

theorem copied_fn (w : World) (v : Value) (us : List Tw) (hs : Sl w v 5 (twcs us)) (hb : us.length ≤ 10) : SX.Fn Try.prog 16 [.agg #[v]] w (fun _ => False) fun r N => ∃ ad c, r = .agg #[.slice ad us.length c] ∧ N = [.row (.slice ad us.length c) 43 5 (twcs us)] ∧ (ad = none → us = []) := by
  obtain ⟨a, n, c, rfl⟩ := hs.shape
  have hn := hs.le (f := twc) twc_len (by omega)
  refine walk [] [] (det0_ok _ _) Try.func16 rfl Try.ntmps16 res16 (by kernel_rfl) no_facts ?_
  simp (config := { maxSteps := 4000000 }) only [↓sx0, ↓sx1, ↓sx2, ↓sx3, ↓sx4, ↓sx5, ↓sx6, sx0, sx1, sx2, sx3, sx4, sx5, sx6, tf16, ev3_hold, sxo, List.all_cons, List.all_nil, Bool.not_eq_true', Bool.not_eq_false', and_self, Bool.false_eq_true, Bool.true_eq_false, false_implies, true_and, and_true, bne_self_eq_false, beq_self_eq_true, Int.reduceBEq, Int.reduceBNe, Int.reduceLT, Int.reduceLE, Int.reduceEq, Int.reduceToNat, Int.toNat_natCast, beq_iff_eq, bne_iff_ne, beq_eq_false_iff_ne, bne_eq_false_iff_eq, Decidable.not_not, ↓reduceIte, if_true, if_false, List.map_cons, List.map_nil, List.reduceReplicate, List.nil_append, List.cons_append, List.append_nil, List.length_cons, List.length_nil, Nat.reduceAdd, Nat.reduceSub, Nat.reduceMul, Nat.reduceLT, Nat.reduceLeDiff, Nat.reduceBEq, Nat.reduceEqDiff, decide_true, decide_false, decide_eq_true_eq, decide_eq_false_iff_not, Bool.and_true, Bool.true_and, Bool.and_false, Bool.false_and, Bool.or_true, Bool.true_or, Bool.or_false, Bool.false_or, Bool.not_true, Bool.not_false, sxc, List.getElem?_cons_zero, List.getElem?_cons_succ, List.drop_zero, List.drop_succ_cons, List.take_zero, List.take_succ_cons, List.zip_cons_cons, List.zip_nil_right, List.toList_toArray, Nat.zero_add, Option.map_some, Option.map_none, Option.isSome_some, true_and, and_true, forall_const, ne_eq, not_false_eq_true, true_implies, implies_true]
  intro b
  refine app_at (f := twc) (l := []) (m := us) (HImp.refl _ _) twc_len twc_one (fun w' hw => hs.hp (fun _ _ => id) hw) (by simp; omega) fun ad c' h => ?_
  simp (config := { maxSteps := 4000000 }) only [↓sx0, ↓sx1, ↓sx2, ↓sx3, ↓sx4, ↓sx5, ↓sx6, sx0, sx1, sx2, sx3, sx4, sx5, sx6, tf16, ev3_hold, sxo, List.all_cons, List.all_nil, Bool.not_eq_true', Bool.not_eq_false', and_self, Bool.false_eq_true, Bool.true_eq_false, false_implies, true_and, and_true, bne_self_eq_false, beq_self_eq_true, Int.reduceBEq, Int.reduceBNe, Int.reduceLT, Int.reduceLE, Int.reduceEq, Int.reduceToNat, Int.toNat_natCast, beq_iff_eq, bne_iff_ne, beq_eq_false_iff_ne, bne_eq_false_iff_eq, Decidable.not_not, ↓reduceIte, if_true, if_false, List.map_cons, List.map_nil, List.reduceReplicate, List.nil_append, List.cons_append, List.append_nil, List.length_cons, List.length_nil, Nat.reduceAdd, Nat.reduceSub, Nat.reduceMul, Nat.reduceLT, Nat.reduceLeDiff, Nat.reduceBEq, Nat.reduceEqDiff, decide_true, decide_false, decide_eq_true_eq, decide_eq_false_iff_not, Bool.and_true, Bool.true_and, Bool.and_false, Bool.false_and, Bool.or_true, Bool.true_or, Bool.or_false, Bool.false_or, Bool.not_true, Bool.not_false, sxc, List.getElem?_cons_zero, List.getElem?_cons_succ, List.drop_zero, List.drop_succ_cons, List.take_zero, List.take_succ_cons, List.zip_cons_cons, List.zip_nil_right, List.toList_toArray, Nat.zero_add, Option.map_some, Option.map_none, Option.isSome_some, true_and, and_true, forall_const, ne_eq, not_false_eq_true, true_implies, implies_true]
  exact ⟨ad, c', rfl, rfl, fun h0 => (h h0).2⟩

def exT : List Tw := [⟨4, 6, 200, 1, 1000⟩, ⟨2, 3, 100, 1, 100⟩]

theorem example_fn (w : World) : SX.Fn Try.prog 41 [] w (fun _ => False) fun r N => ∃ b, r = .tuple #[.agg #[.slice (some ⟨b, 0, none⟩) 2 2], .agg #[I 9, I 400, I 3, I 100], .agg #[I 300, I 100, I 200, I 20, I 80, I 100]] ∧ N = [.row (.slice (some ⟨b, 0, none⟩) 2 2) 43 5 (twcs exT)] := by
  refine walk [] [] (det0_ok _ _) Try.func41 rfl Try.ntmps41 res41 (by kernel_rfl) no_facts ?_
  simp (config := { maxSteps := 4000000 }) only [↓sx0, ↓sx1, ↓sx2, ↓sx3, ↓sx4, ↓sx5, ↓sx6, sx0, sx1, sx2, sx3, sx4, sx5, sx6, tf41, ev3_hold, sxo, List.all_cons, List.all_nil, Bool.not_eq_true', Bool.not_eq_false', and_self, Bool.false_eq_true, Bool.true_eq_false, false_implies, true_and, and_true, bne_self_eq_false, beq_self_eq_true, Int.reduceBEq, Int.reduceBNe, Int.reduceLT, Int.reduceLE, Int.reduceEq, Int.reduceToNat, Int.toNat_natCast, beq_iff_eq, bne_iff_ne, beq_eq_false_iff_ne, bne_eq_false_iff_eq, Decidable.not_not, ↓reduceIte, if_true, if_false, List.map_cons, List.map_nil, List.reduceReplicate, List.nil_append, List.cons_append, List.append_nil, List.length_cons, List.length_nil, Nat.reduceAdd, Nat.reduceSub, Nat.reduceMul, Nat.reduceLT, Nat.reduceLeDiff, Nat.reduceBEq, Nat.reduceEqDiff, decide_true, decide_false, decide_eq_true_eq, decide_eq_false_iff_not, Bool.and_true, Bool.true_and, Bool.and_false, Bool.false_and, Bool.or_true, Bool.true_or, Bool.or_false, Bool.false_or, Bool.not_true, Bool.not_false, sxc, List.getElem?_cons_zero, List.getElem?_cons_succ, List.drop_zero, List.drop_succ_cons, List.take_zero, List.take_succ_cons, List.zip_cons_cons, List.zip_nil_right, List.toList_toArray, Nat.zero_add, Option.map_some, Option.map_none, Option.isSome_some, true_and, and_true, forall_const, ne_eq, not_false_eq_true, true_implies, implies_true]
  exact fun b => ⟨b, rfl, rfl⟩

end Go.Proofs.Ytpfbpelkodlljaa
