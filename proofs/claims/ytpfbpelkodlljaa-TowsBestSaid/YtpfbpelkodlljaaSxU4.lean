/- A part of a proof: the symbolic walk and what it shows of single functions. -/
import Derived.Test.YtpfbpelkodlljaaSxU3
set_option linter.all false
namespace Go.Proofs.Ytpfbpelkodlljaa
open Go.RowKit Go.SX
set_option maxRecDepth 4000
set_option maxHeartbeats 4000000
set_option linter.unusedSimpArgs false
set_option linter.unusedVariables false

theorem det_of_fn' {g : Nat} {args : List Value} {v : Value} {w : World} (h : SX.Fn Try.prog g args w (fun _ => False) fun u N => u = v) : Calls Try.prog g args.toArray w fun e w' => e = .returned v ∧ Keep (fun _ => False) w w' :=
  Calls.mono h fun e w' ⟨u, N, he, hk, _, _, _, hu⟩ => ⟨by rw [he, hu], hk⟩

def rsBad (free sag : Int) : Bool := decide (free < 0) || (decide (free = 0) && decide (sag > 0))
def rsSag (a hi x : Int) : Int := wr (wr (hi * x) * wr (a - x))
def rsNext (free sag t : Int) : Int := if free > 0 then max t (wr ((wr (wr (sag + free) - 1)).tdiv free)) else t
def rsGo (h m a s hi wt : Int) : Nat → Nat → Int → Int × Int
  | 0, _, t => (t, 0)
  | n + 1, k, t => if rsBad (roomW h m a s wt k) (rsSag a hi k) then (0, 3) else rsGo h m a s hi wt n (k + 1) (rsNext (roomW h m a s wt k) (rsSag a hi k) t)
def rslackR (h m a s lo hi wt : Int) : Int × Int := if checkV h m a s lo hi wt = 0 then rsGo h m a s hi wt (a + 1).toNat 0 1 else (0, checkV h m a s lo hi wt)

theorem rslack_fn (w : World) (h m a s lo hi wt : Int) : SX.Fn Try.prog 10 [.agg #[I h, I m, I a, I s, I lo, I hi], I wt] w (fun _ => False) fun v N => v = .tuple #[I (rslackR h m a s lo hi wt).1, I (rslackR h m a s lo hi wt).2] := by
  refine walk [] [] (detC_ok _ _) Try.func10 rfl Try.ntmps10 res10 (by kernel_rfl) no_facts ?_
  by_cases hc : checkV h m a s lo hi wt = 0
  · have ha : 1 ≤ a ∧ a ≤ 500 := by
      have := (check_zero hc).1
      simp only [isBuoyB, inB, Bool.and_eq_true, decide_eq_true_eq] at this
      omega
    simp (config := { maxSteps := 4000000 }) only [↓sx0, ↓sx1, ↓sx2, ↓sx3, ↓sx4, ↓sx5, ↓sx6, sx0, sx1, sx2, sx3, sx4, sx5, sx6, tf10, ev3_hold, sxo, List.all_cons, List.all_nil, Bool.not_eq_true', Bool.not_eq_false', and_self, Bool.false_eq_true, Bool.true_eq_false, false_implies, true_and, and_true, bne_self_eq_false, beq_self_eq_true, Int.reduceBEq, Int.reduceBNe, Int.reduceLT, Int.reduceLE, Int.reduceEq, Int.reduceToNat, Int.toNat_natCast, beq_iff_eq, bne_iff_ne, beq_eq_false_iff_ne, bne_eq_false_iff_eq, Decidable.not_not, ↓reduceIte, if_true, if_false, List.map_cons, List.map_nil, List.reduceReplicate, List.nil_append, List.cons_append, List.append_nil, List.length_cons, List.length_nil, Nat.reduceAdd, Nat.reduceSub, Nat.reduceMul, Nat.reduceLT, Nat.reduceLeDiff, Nat.reduceBEq, Nat.reduceEqDiff, decide_true, decide_false, decide_eq_true_eq, decide_eq_false_iff_not, Bool.and_true, Bool.true_and, Bool.and_false, Bool.false_and, Bool.or_true, Bool.true_or, Bool.or_false, Bool.false_or, Bool.not_true, Bool.not_false, sxc, List.getElem?_cons_zero, List.getElem?_cons_succ, List.drop_zero, List.drop_succ_cons, List.take_zero, List.take_succ_cons, List.zip_cons_cons, List.zip_nil_right, List.toList_toArray, Nat.zero_add, Option.map_some, Option.map_none, Option.isSome_some, true_and, and_true, forall_const, ne_eq, not_false_eq_true, true_implies, implies_true, detC_eq, hc]
    rw [rslackR, if_pos hc]
    refine loop_const [(9, 10), (17, 56)] (fun p : Nat × Int => [(8, I p.1), (7, I p.2)]) (fun p H1 => H1 = [] ∧ p.1 ≤ (a + 1).toNat ∧ rsGo h m a s hi wt (a + 1).toNat 0 1 = rsGo h m a s hi wt ((a + 1).toNat - p.1) p.1 p.2) (fun p => (a + 1).toNat - p.1) (0, 1) ?_ ⟨rfl, Nat.zero_le _, rfl⟩ ?_
    · simp (config := { maxSteps := 4000000 }) only [↓sx0, ↓sx1, ↓sx2, ↓sx3, ↓sx4, ↓sx5, ↓sx6, sx0, sx1, sx2, sx3, sx4, sx5, sx6, tf10, ev3_hold, sxo, List.all_cons, List.all_nil, Bool.not_eq_true', Bool.not_eq_false', and_self, Bool.false_eq_true, Bool.true_eq_false, false_implies, true_and, and_true, bne_self_eq_false, beq_self_eq_true, Int.reduceBEq, Int.reduceBNe, Int.reduceLT, Int.reduceLE, Int.reduceEq, Int.reduceToNat, Int.toNat_natCast, beq_iff_eq, bne_iff_ne, beq_eq_false_iff_ne, bne_eq_false_iff_eq, Decidable.not_not, ↓reduceIte, if_true, if_false, List.map_cons, List.map_nil, List.reduceReplicate, List.nil_append, List.cons_append, List.append_nil, List.length_cons, List.length_nil, Nat.reduceAdd, Nat.reduceSub, Nat.reduceMul, Nat.reduceLT, Nat.reduceLeDiff, Nat.reduceBEq, Nat.reduceEqDiff, decide_true, decide_false, decide_eq_true_eq, decide_eq_false_iff_not, Bool.and_true, Bool.true_and, Bool.and_false, Bool.false_and, Bool.or_true, Bool.true_or, Bool.or_false, Bool.false_or, Bool.not_true, Bool.not_false, sxc, List.getElem?_cons_zero, List.getElem?_cons_succ, List.drop_zero, List.drop_succ_cons, List.take_zero, List.take_succ_cons, List.zip_cons_cons, List.zip_nil_right, List.toList_toArray, Nat.zero_add, Option.map_some, Option.map_none, Option.isSome_some, true_and, and_true, forall_const, ne_eq, not_false_eq_true, true_implies, implies_true]
      rfl
    · rintro ⟨k, t⟩ H1 g ⟨rfl, hk, ht⟩
      simp only [] at hk ht
      have e2 : wr (k + 1) = k + 1 := wrap_id (by omega)
      simp (config := { maxSteps := 4000000 }) only [↓sx0, ↓sx1, ↓sx2, ↓sx3, ↓sx4, ↓sx5, ↓sx6, sx0, sx1, sx2, sx3, sx4, sx5, sx6, tf10, ev3_hold, sxo, List.all_cons, List.all_nil, Bool.not_eq_true', Bool.not_eq_false', and_self, Bool.false_eq_true, Bool.true_eq_false, false_implies, true_and, and_true, bne_self_eq_false, beq_self_eq_true, Int.reduceBEq, Int.reduceBNe, Int.reduceLT, Int.reduceLE, Int.reduceEq, Int.reduceToNat, Int.toNat_natCast, beq_iff_eq, bne_iff_ne, beq_eq_false_iff_ne, bne_eq_false_iff_eq, Decidable.not_not, ↓reduceIte, if_true, if_false, List.map_cons, List.map_nil, List.reduceReplicate, List.nil_append, List.cons_append, List.append_nil, List.length_cons, List.length_nil, Nat.reduceAdd, Nat.reduceSub, Nat.reduceMul, Nat.reduceLT, Nat.reduceLeDiff, Nat.reduceBEq, Nat.reduceEqDiff, decide_true, decide_false, decide_eq_true_eq, decide_eq_false_iff_not, Bool.and_true, Bool.true_and, Bool.and_false, Bool.false_and, Bool.or_true, Bool.true_or, Bool.or_false, Bool.false_or, Bool.not_true, Bool.not_false, sxc, List.getElem?_cons_zero, List.getElem?_cons_succ, List.drop_zero, List.drop_succ_cons, List.take_zero, List.take_succ_cons, List.zip_cons_cons, List.zip_nil_right, List.toList_toArray, Nat.zero_add, Option.map_some, Option.map_none, Option.isSome_some, true_and, and_true, forall_const, ne_eq, not_false_eq_true, true_implies, implies_true, detC_eq, e2]
      refine ⟨fun h0 => ?_, fun h0 => ?_⟩
      · have hs : rsGo h m a s hi wt ((a + 1).toNat - k) k t = if rsBad (roomW h m a s wt k) (rsSag a hi k) then (0, 3) else rsGo h m a s hi wt ((a + 1).toNat - (k + 1)) (k + 1) (rsNext (roomW h m a s wt k) (rsSag a hi k) t) := by
          rw [show (a + 1).toNat - k = ((a + 1).toNat - (k + 1)) + 1 by omega]
          rfl
        rw [hs] at ht
        have es : IntKind.i64.wrap (IntKind.i64.wrap (hi * k) * IntKind.i64.wrap (a - k)) = rsSag a hi k := rfl
        rw [es]
        refine ⟨fun h1 => ⟨fun h2 => ⟨fun h3 => ?_, fun h3 => ⟨fun h4 => by omega, fun h4 => ⟨(k + 1, t), _, ⟨rfl, rfl⟩, HImp.refl _ _, ⟨rfl, by simp only []; omega, ?_⟩, by simp only []; omega⟩⟩⟩,
          fun h2 => ⟨fun h4 => ⟨h2, (k + 1, _), _, ⟨rfl, rfl⟩, HImp.refl _ _, ⟨rfl, by simp only []; omega, ?_⟩, by simp only []; omega⟩, fun h4 => by omega⟩⟩, fun h1 => ?_⟩
        · rw [ht, if_pos (by simp [rsBad, h2, h3])]
        · rw [ht, if_neg (by simp [rsBad, h2, h3])]
          simp [rsNext, h4]
        · rw [ht, if_neg (by simp [rsBad, h1, h2])]
          simp [rsNext, h4, wr]
        · rw [ht, if_pos (by simp [rsBad, h1])]
      · rw [ht, show (a + 1).toNat - k = 0 by omega]
        rfl
  · simp (config := { maxSteps := 4000000 }) only [↓sx0, ↓sx1, ↓sx2, ↓sx3, ↓sx4, ↓sx5, ↓sx6, sx0, sx1, sx2, sx3, sx4, sx5, sx6, tf10, ev3_hold, sxo, List.all_cons, List.all_nil, Bool.not_eq_true', Bool.not_eq_false', and_self, Bool.false_eq_true, Bool.true_eq_false, false_implies, true_and, and_true, bne_self_eq_false, beq_self_eq_true, Int.reduceBEq, Int.reduceBNe, Int.reduceLT, Int.reduceLE, Int.reduceEq, Int.reduceToNat, Int.toNat_natCast, beq_iff_eq, bne_iff_ne, beq_eq_false_iff_ne, bne_eq_false_iff_eq, Decidable.not_not, ↓reduceIte, if_true, if_false, List.map_cons, List.map_nil, List.reduceReplicate, List.nil_append, List.cons_append, List.append_nil, List.length_cons, List.length_nil, Nat.reduceAdd, Nat.reduceSub, Nat.reduceMul, Nat.reduceLT, Nat.reduceLeDiff, Nat.reduceBEq, Nat.reduceEqDiff, decide_true, decide_false, decide_eq_true_eq, decide_eq_false_iff_not, Bool.and_true, Bool.true_and, Bool.and_false, Bool.false_and, Bool.or_true, Bool.true_or, Bool.or_false, Bool.false_or, Bool.not_true, Bool.not_false, sxc, List.getElem?_cons_zero, List.getElem?_cons_succ, List.drop_zero, List.drop_succ_cons, List.take_zero, List.take_succ_cons, List.zip_cons_cons, List.zip_nil_right, List.toList_toArray, Nat.zero_add, Option.map_some, Option.map_none, Option.isSome_some, true_and, and_true, forall_const, ne_eq, not_false_eq_true, true_implies, implies_true, detC_eq, hc]
    simp [rslackR, hc]

theorem carry_bd {h m a s lo hi wt : Int} (hc : checkV h m a s lo hi wt = 0) : 1 ≤ a ∧ a ≤ 500 := by
  have := (check_zero hc).1
  simp only [isBuoyB, inB, Bool.and_eq_true, decide_eq_true_eq] at this
  omega

def detD : Nat → List Value → Option Value
  | 20, [.agg ⟨[.int .i64 h, .int .i64 m, .int .i64 a, .int .i64 s, .int .i64 _, .int .i64 _]⟩, .int .i64 wt, .int .i64 wg, .int .i64 tn] => if 0 ≤ a ∧ a ≤ 1000000 then some (.bool (dryGo h m a s wt wg tn (a + 1).toNat 0)) else none
  | 9, [.agg ⟨[.int .i64 h, .int .i64 m, .int .i64 a, .int .i64 s, .int .i64 lo, .int .i64 hi]⟩, .int .i64 wt] => some (.tuple #[I (slackR h m a s lo hi wt).1, I (slackR h m a s lo hi wt).2])
  | 10, [.agg ⟨[.int .i64 h, .int .i64 m, .int .i64 a, .int .i64 s, .int .i64 lo, .int .i64 hi]⟩, .int .i64 wt] => some (.tuple #[I (rslackR h m a s lo hi wt).1, I (rslackR h m a s lo hi wt).2])
  | 11, [.agg ⟨[.int .i64 h, .int .i64 m, .int .i64 a, .int .i64 s, .int .i64 lo, .int .i64 hi]⟩, .int .i64 wt, .int .i64 str] => some (.tuple #[I (carryR h m a s lo hi wt str).1, I (carryR h m a s lo hi wt str).2])
  | g, xs => detC g xs

theorem detD_ok (w0 : World) (X : Nat → Prop) : DetFn Try.prog ⟨w0, X⟩ detD := by
  intro g args v h w hk
  unfold detD at h
  split at h
  · split at h
    · rename_i ha
      cases h
      exact det_of_fn' (dry_fn w _ _ _ _ _ _ _ _ _ ha)
    · cases h
  · cases h
    exact det_of_fn' (slack_fn w _ _ _ _ _ _ _)
  · cases h
    exact det_of_fn' (rslack_fn w _ _ _ _ _ _ _)
  · cases h
    exact det_of_fn' (carry_fn w _ _ _ _ _ _ _ _)
  · exact detC_ok w0 X _ _ _ h w hk

theorem detD_eq : (∀ n l h : Int, detD 39 [I n, I l, I h] = some (.bool (inB n l h))) ∧
    (∀ n l h : Int, detD 40 [I n, I l, I h] = some (.bool (inB n l h))) ∧
    (∀ h m a s lo hi : Int, detD 19 [.agg #[I h, I m, I a, I s, I lo, I hi]] = some (.bool (isBuoyB h m a s lo hi))) ∧
    (∀ h m a s lo hi wt : Int, detD 37 [.agg #[I h, I m, I a, I s, I lo, I hi], I wt] = some (I (checkV h m a s lo hi wt))) ∧
    (∀ h m a s lo hi wt : Int, detD 9 [.agg #[I h, I m, I a, I s, I lo, I hi], I wt] = some (.tuple #[I (slackR h m a s lo hi wt).1, I (slackR h m a s lo hi wt).2])) ∧
    (∀ h m a s lo hi wt : Int, detD 10 [.agg #[I h, I m, I a, I s, I lo, I hi], I wt] = some (.tuple #[I (rslackR h m a s lo hi wt).1, I (rslackR h m a s lo hi wt).2])) ∧
    (∀ h m a s lo hi wt str : Int, detD 11 [.agg #[I h, I m, I a, I s, I lo, I hi], I wt, I str] = some (.tuple #[I (carryR h m a s lo hi wt str).1, I (carryR h m a s lo hi wt str).2])) :=
  ⟨fun _ _ _ => rfl, fun _ _ _ => rfl, fun _ _ _ _ _ _ => rfl, fun _ _ _ _ _ _ _ => rfl, fun _ _ _ _ _ _ _ => rfl, fun _ _ _ _ _ _ _ => rfl, fun _ _ _ _ _ _ _ _ => rfl⟩
theorem detD_20 {a : Int} (ha : 0 ≤ a ∧ a ≤ 1000000) (h m s lo hi wt wg tn : Int) : detD 20 [.agg #[I h, I m, I a, I s, I lo, I hi], I wt, I wg, I tn] = some (.bool (dryGo h m a s wt wg tn (a + 1).toNat 0)) := by simp [detD, ha]

def rcGo (h m a s wt str : Int) : Nat → Int → Int
  | 0, t => t
  | n + 1, t => if dryGo h m a s wt (t + 1) str (a + 1).toNat 0 then rcGo h m a s wt str n (t + 1) else t
def rcarryR (h m a s lo hi wt str : Int) : Int × Int := if carryV h m a s lo hi wt str = 0 then (rcGo h m a s wt str 500 0, 0) else (0, carryV h m a s lo hi wt str)

theorem rcarry_fn (w : World) (h m a s lo hi wt str : Int) : SX.Fn Try.prog 12 [.agg #[I h, I m, I a, I s, I lo, I hi], I wt, I str] w (fun _ => False) fun v N => v = .tuple #[I (rcarryR h m a s lo hi wt str).1, I (rcarryR h m a s lo hi wt str).2] := by
  refine walk [] [] (detD_ok _ _) Try.func12 rfl Try.ntmps12 res12 (by kernel_rfl) no_facts ?_
  by_cases hc : checkV h m a s lo hi wt = 0
  · have ha := carry_bd hc
    simp (config := { maxSteps := 4000000 }) only [↓sx0, ↓sx1, ↓sx2, ↓sx3, ↓sx4, ↓sx5, ↓sx6, sx0, sx1, sx2, sx3, sx4, sx5, sx6, tf12, ev3_hold, sxo, List.all_cons, List.all_nil, Bool.not_eq_true', Bool.not_eq_false', and_self, Bool.false_eq_true, Bool.true_eq_false, false_implies, true_and, and_true, bne_self_eq_false, beq_self_eq_true, Int.reduceBEq, Int.reduceBNe, Int.reduceLT, Int.reduceLE, Int.reduceEq, Int.reduceToNat, Int.toNat_natCast, beq_iff_eq, bne_iff_ne, beq_eq_false_iff_ne, bne_eq_false_iff_eq, Decidable.not_not, ↓reduceIte, if_true, if_false, List.map_cons, List.map_nil, List.reduceReplicate, List.nil_append, List.cons_append, List.append_nil, List.length_cons, List.length_nil, Nat.reduceAdd, Nat.reduceSub, Nat.reduceMul, Nat.reduceLT, Nat.reduceLeDiff, Nat.reduceBEq, Nat.reduceEqDiff, decide_true, decide_false, decide_eq_true_eq, decide_eq_false_iff_not, Bool.and_true, Bool.true_and, Bool.and_false, Bool.false_and, Bool.or_true, Bool.true_or, Bool.or_false, Bool.false_or, Bool.not_true, Bool.not_false, sxc, List.getElem?_cons_zero, List.getElem?_cons_succ, List.drop_zero, List.drop_succ_cons, List.take_zero, List.take_succ_cons, List.zip_cons_cons, List.zip_nil_right, List.toList_toArray, Nat.zero_add, Option.map_some, Option.map_none, Option.isSome_some, true_and, and_true, forall_const, ne_eq, not_false_eq_true, true_implies, implies_true, detD_eq, hc]
    refine ⟨fun hs => ?_, fun hs => ?_⟩
    · have hv : carryV h m a s lo hi wt str = 1 := by simp [carryV, hc, hs]
      simp [rcarryR, hv]
    have hv : carryV h m a s lo hi wt str = 0 := by simp [carryV, hc, hs]
    rw [rcarryR, if_pos hv]
    refine loop_const [(19, 30)] (fun k : Nat => [(9, I k)]) (fun k H1 => H1 = [] ∧ k ≤ 500 ∧ rcGo h m a s wt str 500 0 = rcGo h m a s wt str (500 - k) k) (fun k => 500 - k) 0 ?_ ⟨rfl, Nat.zero_le _, rfl⟩ ?_
    · simp (config := { maxSteps := 4000000 }) only [↓sx0, ↓sx1, ↓sx2, ↓sx3, ↓sx4, ↓sx5, ↓sx6, sx0, sx1, sx2, sx3, sx4, sx5, sx6, tf12, ev3_hold, sxo, List.all_cons, List.all_nil, Bool.not_eq_true', Bool.not_eq_false', and_self, Bool.false_eq_true, Bool.true_eq_false, false_implies, true_and, and_true, bne_self_eq_false, beq_self_eq_true, Int.reduceBEq, Int.reduceBNe, Int.reduceLT, Int.reduceLE, Int.reduceEq, Int.reduceToNat, Int.toNat_natCast, beq_iff_eq, bne_iff_ne, beq_eq_false_iff_ne, bne_eq_false_iff_eq, Decidable.not_not, ↓reduceIte, if_true, if_false, List.map_cons, List.map_nil, List.reduceReplicate, List.nil_append, List.cons_append, List.append_nil, List.length_cons, List.length_nil, Nat.reduceAdd, Nat.reduceSub, Nat.reduceMul, Nat.reduceLT, Nat.reduceLeDiff, Nat.reduceBEq, Nat.reduceEqDiff, decide_true, decide_false, decide_eq_true_eq, decide_eq_false_iff_not, Bool.and_true, Bool.true_and, Bool.and_false, Bool.false_and, Bool.or_true, Bool.true_or, Bool.or_false, Bool.false_or, Bool.not_true, Bool.not_false, sxc, List.getElem?_cons_zero, List.getElem?_cons_succ, List.drop_zero, List.drop_succ_cons, List.take_zero, List.take_succ_cons, List.zip_cons_cons, List.zip_nil_right, List.toList_toArray, Nat.zero_add, Option.map_some, Option.map_none, Option.isSome_some, true_and, and_true, forall_const, ne_eq, not_false_eq_true, true_implies, implies_true]
      rfl
    · rintro k H1 g ⟨rfl, hk, ht⟩
      have e2 : wr (k + 1) = k + 1 := wrap_id (by omega)
      have e3 := detD_20 (a := a) ⟨by omega, by omega⟩
      simp (config := { maxSteps := 4000000 }) only [↓sx0, ↓sx1, ↓sx2, ↓sx3, ↓sx4, ↓sx5, ↓sx6, sx0, sx1, sx2, sx3, sx4, sx5, sx6, tf12, ev3_hold, sxo, List.all_cons, List.all_nil, Bool.not_eq_true', Bool.not_eq_false', and_self, Bool.false_eq_true, Bool.true_eq_false, false_implies, true_and, and_true, bne_self_eq_false, beq_self_eq_true, Int.reduceBEq, Int.reduceBNe, Int.reduceLT, Int.reduceLE, Int.reduceEq, Int.reduceToNat, Int.toNat_natCast, beq_iff_eq, bne_iff_ne, beq_eq_false_iff_ne, bne_eq_false_iff_eq, Decidable.not_not, ↓reduceIte, if_true, if_false, List.map_cons, List.map_nil, List.reduceReplicate, List.nil_append, List.cons_append, List.append_nil, List.length_cons, List.length_nil, Nat.reduceAdd, Nat.reduceSub, Nat.reduceMul, Nat.reduceLT, Nat.reduceLeDiff, Nat.reduceBEq, Nat.reduceEqDiff, decide_true, decide_false, decide_eq_true_eq, decide_eq_false_iff_not, Bool.and_true, Bool.true_and, Bool.and_false, Bool.false_and, Bool.or_true, Bool.true_or, Bool.or_false, Bool.false_or, Bool.not_true, Bool.not_false, sxc, List.getElem?_cons_zero, List.getElem?_cons_succ, List.drop_zero, List.drop_succ_cons, List.take_zero, List.take_succ_cons, List.zip_cons_cons, List.zip_nil_right, List.toList_toArray, Nat.zero_add, Option.map_some, Option.map_none, Option.isSome_some, true_and, and_true, forall_const, ne_eq, not_false_eq_true, true_implies, implies_true, detD_eq, e2, e3]
      refine ⟨fun h0 => ?_, fun h0 => ?_⟩
      · have hs : rcGo h m a s wt str (500 - k) k = if dryGo h m a s wt ((k : Int) + 1) str (a + 1).toNat 0 then rcGo h m a s wt str (500 - (k + 1)) ((k : Int) + 1) else k := by
          rw [show 500 - k = (500 - (k + 1)) + 1 by omega]
          rfl
        rw [hs] at ht
        refine ⟨fun h1 => ⟨k + 1, _, rfl, HImp.refl _ _, ⟨rfl, by omega, ?_⟩, by omega⟩, fun h1 => ?_⟩
        · rw [ht, if_pos h1]
          rfl
        · rw [ht, if_neg (by simp [h1])]
      · rw [ht, show 500 - k = 0 by omega]
        rfl
  · simp (config := { maxSteps := 4000000 }) only [↓sx0, ↓sx1, ↓sx2, ↓sx3, ↓sx4, ↓sx5, ↓sx6, sx0, sx1, sx2, sx3, sx4, sx5, sx6, tf12, ev3_hold, sxo, List.all_cons, List.all_nil, Bool.not_eq_true', Bool.not_eq_false', and_self, Bool.false_eq_true, Bool.true_eq_false, false_implies, true_and, and_true, bne_self_eq_false, beq_self_eq_true, Int.reduceBEq, Int.reduceBNe, Int.reduceLT, Int.reduceLE, Int.reduceEq, Int.reduceToNat, Int.toNat_natCast, beq_iff_eq, bne_iff_ne, beq_eq_false_iff_ne, bne_eq_false_iff_eq, Decidable.not_not, ↓reduceIte, if_true, if_false, List.map_cons, List.map_nil, List.reduceReplicate, List.nil_append, List.cons_append, List.append_nil, List.length_cons, List.length_nil, Nat.reduceAdd, Nat.reduceSub, Nat.reduceMul, Nat.reduceLT, Nat.reduceLeDiff, Nat.reduceBEq, Nat.reduceEqDiff, decide_true, decide_false, decide_eq_true_eq, decide_eq_false_iff_not, Bool.and_true, Bool.true_and, Bool.and_false, Bool.false_and, Bool.or_true, Bool.true_or, Bool.or_false, Bool.false_or, Bool.not_true, Bool.not_false, sxc, List.getElem?_cons_zero, List.getElem?_cons_succ, List.drop_zero, List.drop_succ_cons, List.take_zero, List.take_succ_cons, List.zip_cons_cons, List.zip_nil_right, List.toList_toArray, Nat.zero_add, Option.map_some, Option.map_none, Option.isSome_some, true_and, and_true, forall_const, ne_eq, not_false_eq_true, true_implies, implies_true, detD_eq, hc]
    have hv : carryV h m a s lo hi wt str = checkV h m a s lo hi wt := by simp [carryV, hc]
    simp [rcarryR, hv, hc]

end Go.Proofs.Ytpfbpelkodlljaa
