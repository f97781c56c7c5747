/- A part of a proof: the symbolic walk and what it shows of single functions. -/
import Derived.Test.YtpfbpelkodlljaaSxU2
set_option linter.all false
namespace Go.Proofs.Ytpfbpelkodlljaa
open Go.RowKit Go.SX
set_option maxRecDepth 4000
set_option maxHeartbeats 4000000
set_option linter.unusedSimpArgs false
set_option linter.unusedVariables false

def caNext (str g s t : Int) : Int := if s > 0 then min t (wr ((wr (str * g)).tdiv s)) else t
def caGo (h m a s wt str : Int) : Nat → Nat → Int → Int
  | 0, _, t => t
  | n + 1, k, t => if gapV h m a s wt k < 0 then 0 else caGo h m a s wt str n (k + 1) (caNext str (gapV h m a s wt k) (sagV a k) t)

def carryV (h m a s lo hi wt str : Int) : Int := if checkV h m a s lo hi wt = 0 then (if inB str 1 1000000 then 0 else 1) else checkV h m a s lo hi wt
def carryR (h m a s lo hi wt str : Int) : Int × Int := if carryV h m a s lo hi wt str = 0 then (caGo h m a s wt str (a + 1).toNat 0 500, 0) else (0, carryV h m a s lo hi wt str)

theorem carry_fn (w : World) (h m a s lo hi wt str : Int) : SX.Fn Try.prog 11 [.agg #[I h, I m, I a, I s, I lo, I hi], I wt, I str] w (fun _ => False) fun v N => v = .tuple #[I (carryR h m a s lo hi wt str).1, I (carryR h m a s lo hi wt str).2] := by
  refine walk [] [(5, (.alt 0 (ones [1, 2] .fin) (.alt 1 (ones [0, 2] .fin) .no)))] (detC_ok _ _) Try.func11 rfl Try.ntmps11 res11 (by kernel_rfl) no_facts ?_
  by_cases hc : checkV h m a s lo hi wt = 0
  · have er : rigV h m a s lo hi wt = .tuple #[.agg #[I h, I m, I a, I s, I lo, I hi, I wt], I 0] := by simp [rigV, hc]
    have ha : 1 ≤ a ∧ a ≤ 500 := by
      have := (check_zero hc).1
      simp only [isBuoyB, inB, Bool.and_eq_true, decide_eq_true_eq] at this
      omega
    simp (config := { maxSteps := 4000000 }) only [↓sx0, ↓sx1, ↓sx2, ↓sx3, ↓sx4, ↓sx5, ↓sx6, sx0, sx1, sx2, sx3, sx4, sx5, sx6, tf11, ev3_hold, sxo, List.all_cons, List.all_nil, Bool.not_eq_true', Bool.not_eq_false', and_self, Bool.false_eq_true, Bool.true_eq_false, false_implies, true_and, and_true, bne_self_eq_false, beq_self_eq_true, Int.reduceBEq, Int.reduceBNe, Int.reduceLT, Int.reduceLE, Int.reduceEq, Int.reduceToNat, Int.toNat_natCast, beq_iff_eq, bne_iff_ne, beq_eq_false_iff_ne, bne_eq_false_iff_eq, Decidable.not_not, ↓reduceIte, if_true, if_false, List.map_cons, List.map_nil, List.reduceReplicate, List.nil_append, List.cons_append, List.append_nil, List.length_cons, List.length_nil, Nat.reduceAdd, Nat.reduceSub, Nat.reduceMul, Nat.reduceLT, Nat.reduceLeDiff, Nat.reduceBEq, Nat.reduceEqDiff, decide_true, decide_false, decide_eq_true_eq, decide_eq_false_iff_not, Bool.and_true, Bool.true_and, Bool.and_false, Bool.false_and, Bool.or_true, Bool.true_or, Bool.or_false, Bool.false_or, Bool.not_true, Bool.not_false, sxc, List.getElem?_cons_zero, List.getElem?_cons_succ, List.drop_zero, List.drop_succ_cons, List.take_zero, List.take_succ_cons, List.zip_cons_cons, List.zip_nil_right, List.toList_toArray, Nat.zero_add, Option.map_some, Option.map_none, Option.isSome_some, true_and, and_true, forall_const, ne_eq, not_false_eq_true, true_implies, implies_true, detC_eq, er]
    refine ⟨fun hs => ?_, fun hs => ?_⟩
    · have hv : carryV h m a s lo hi wt str = 1 := by simp [carryV, hc, hs]
      simp [carryR, hv]
    have hv : carryV h m a s lo hi wt str = 0 := by simp [carryV, hc, hs]
    rw [carryR, if_pos hv]
    refine range_intro Try.call35 (a + 1).toNat (gapArg h m a s wt) [] (fun k L' H' => H' = [] ∧ ∃ t, L' = [(25, [I h, I m, I a, I s, I lo, I hi]), (3, [I str]), (3, [I t]), (26, [I 0]), (67, [I h, I m, I a, I s, I lo, I hi, I wt])] ∧ caGo h m a s wt str (a + 1).toNat 0 500 = caGo h m a s wt str ((a + 1).toNat - k) k t) (HImp.refl _ _) (fun w _ => gaps_it w h m a s lo hi wt (by omega)) ⟨rfl, 500, rfl, rfl⟩ ?_ ?_ ?_
    · rintro k vs F ⟨rfl, rfl⟩
      rfl
    · rintro k vs F L' H' hk ⟨rfl, rfl⟩ - ⟨rfl, t, rfl, ht⟩
      have hs : caGo h m a s wt str ((a + 1).toNat - k) k t = if gapV h m a s wt k < 0 then 0 else caGo h m a s wt str ((a + 1).toNat - (k + 1)) (k + 1) (caNext str (gapV h m a s wt k) (sagV a k) t) := by
        rw [show (a + 1).toNat - k = ((a + 1).toNat - (k + 1)) + 1 by omega]
        rfl
      rw [hs] at ht
      simp (config := { maxSteps := 4000000 }) only [↓sx0, ↓sx1, ↓sx2, ↓sx3, ↓sx4, ↓sx5, ↓sx6, sx0, sx1, sx2, sx3, sx4, sx5, sx6, tf11, ev3_hold, sxo, List.all_cons, List.all_nil, Bool.not_eq_true', Bool.not_eq_false', and_self, Bool.false_eq_true, Bool.true_eq_false, false_implies, true_and, and_true, bne_self_eq_false, beq_self_eq_true, Int.reduceBEq, Int.reduceBNe, Int.reduceLT, Int.reduceLE, Int.reduceEq, Int.reduceToNat, Int.toNat_natCast, beq_iff_eq, bne_iff_ne, beq_eq_false_iff_ne, bne_eq_false_iff_eq, Decidable.not_not, ↓reduceIte, if_true, if_false, List.map_cons, List.map_nil, List.reduceReplicate, List.nil_append, List.cons_append, List.append_nil, List.length_cons, List.length_nil, Nat.reduceAdd, Nat.reduceSub, Nat.reduceMul, Nat.reduceLT, Nat.reduceLeDiff, Nat.reduceBEq, Nat.reduceEqDiff, decide_true, decide_false, decide_eq_true_eq, decide_eq_false_iff_not, Bool.and_true, Bool.true_and, Bool.and_false, Bool.false_and, Bool.or_true, Bool.true_or, Bool.or_false, Bool.false_or, Bool.not_true, Bool.not_false, sxc, List.getElem?_cons_zero, List.getElem?_cons_succ, List.drop_zero, List.drop_succ_cons, List.take_zero, List.take_succ_cons, List.zip_cons_cons, List.zip_nil_right, List.toList_toArray, Nat.zero_add, Option.map_some, Option.map_none, Option.isSome_some, true_and, and_true, forall_const, ne_eq, not_false_eq_true, true_implies, implies_true, detC_eq]
      refine ⟨fun h1 => ⟨[], HImp.refl _ _, ?_⟩, fun h1 => ⟨fun h2 => ⟨by omega, [], HImp.refl _ _, rfl, _, rfl, ?_⟩, fun h2 => ⟨[], HImp.refl _ _, rfl, _, rfl, ?_⟩⟩⟩
      · rw [ht, if_pos h1]
      · rw [ht, if_neg h1]
        simp [caNext, h2, wr]
      · rw [ht, if_neg h1]
        simp [caNext, h2]
    · rintro L' H' - ⟨rfl, t, rfl, ht⟩
      simp (config := { maxSteps := 4000000 }) only [↓sx0, ↓sx1, ↓sx2, ↓sx3, ↓sx4, ↓sx5, ↓sx6, sx0, sx1, sx2, sx3, sx4, sx5, sx6, tf11, ev3_hold, sxo, List.all_cons, List.all_nil, Bool.not_eq_true', Bool.not_eq_false', and_self, Bool.false_eq_true, Bool.true_eq_false, false_implies, true_and, and_true, bne_self_eq_false, beq_self_eq_true, Int.reduceBEq, Int.reduceBNe, Int.reduceLT, Int.reduceLE, Int.reduceEq, Int.reduceToNat, Int.toNat_natCast, beq_iff_eq, bne_iff_ne, beq_eq_false_iff_ne, bne_eq_false_iff_eq, Decidable.not_not, ↓reduceIte, if_true, if_false, List.map_cons, List.map_nil, List.reduceReplicate, List.nil_append, List.cons_append, List.append_nil, List.length_cons, List.length_nil, Nat.reduceAdd, Nat.reduceSub, Nat.reduceMul, Nat.reduceLT, Nat.reduceLeDiff, Nat.reduceBEq, Nat.reduceEqDiff, decide_true, decide_false, decide_eq_true_eq, decide_eq_false_iff_not, Bool.and_true, Bool.true_and, Bool.and_false, Bool.false_and, Bool.or_true, Bool.true_or, Bool.or_false, Bool.false_or, Bool.not_true, Bool.not_false, sxc, List.getElem?_cons_zero, List.getElem?_cons_succ, List.drop_zero, List.drop_succ_cons, List.take_zero, List.take_succ_cons, List.zip_cons_cons, List.zip_nil_right, List.toList_toArray, Nat.zero_add, Option.map_some, Option.map_none, Option.isSome_some, true_and, and_true, forall_const, ne_eq, not_false_eq_true, true_implies, implies_true]
      rw [ht, Nat.sub_self]
      rfl
  · have er : rigV h m a s lo hi wt = .tuple #[.agg #[I 0, I 0, I 0, I 0, I 0, I 0, I 0], I (checkV h m a s lo hi wt)] := by simp [rigV, hc]
    simp (config := { maxSteps := 4000000 }) only [↓sx0, ↓sx1, ↓sx2, ↓sx3, ↓sx4, ↓sx5, ↓sx6, sx0, sx1, sx2, sx3, sx4, sx5, sx6, tf11, ev3_hold, sxo, List.all_cons, List.all_nil, Bool.not_eq_true', Bool.not_eq_false', and_self, Bool.false_eq_true, Bool.true_eq_false, false_implies, true_and, and_true, bne_self_eq_false, beq_self_eq_true, Int.reduceBEq, Int.reduceBNe, Int.reduceLT, Int.reduceLE, Int.reduceEq, Int.reduceToNat, Int.toNat_natCast, beq_iff_eq, bne_iff_ne, beq_eq_false_iff_ne, bne_eq_false_iff_eq, Decidable.not_not, ↓reduceIte, if_true, if_false, List.map_cons, List.map_nil, List.reduceReplicate, List.nil_append, List.cons_append, List.append_nil, List.length_cons, List.length_nil, Nat.reduceAdd, Nat.reduceSub, Nat.reduceMul, Nat.reduceLT, Nat.reduceLeDiff, Nat.reduceBEq, Nat.reduceEqDiff, decide_true, decide_false, decide_eq_true_eq, decide_eq_false_iff_not, Bool.and_true, Bool.true_and, Bool.and_false, Bool.false_and, Bool.or_true, Bool.true_or, Bool.or_false, Bool.false_or, Bool.not_true, Bool.not_false, sxc, List.getElem?_cons_zero, List.getElem?_cons_succ, List.drop_zero, List.drop_succ_cons, List.take_zero, List.take_succ_cons, List.zip_cons_cons, List.zip_nil_right, List.toList_toArray, Nat.zero_add, Option.map_some, Option.map_none, Option.isSome_some, true_and, and_true, forall_const, ne_eq, not_false_eq_true, true_implies, implies_true, detC_eq, er, hc]
    have hv : carryV h m a s lo hi wt str = checkV h m a s lo hi wt := by simp [carryV, hc]
    simp [carryR, hv, hc]

/-! ### The reference -/

def dryGo (h m a s wt wg tn : Int) : Nat → Nat → Bool
  | 0, _ => true
  | n + 1, k => if wr (roomW h m a s wt k * tn) < wr (wr (wg * k) * wr (a - k)) then false else dryGo h m a s wt wg tn n (k + 1)

theorem dry_fn (w : World) (h m a s lo hi wt wg tn : Int) (ha : 0 ≤ a ∧ a ≤ 1000000) : SX.Fn Try.prog 20 [.agg #[I h, I m, I a, I s, I lo, I hi], I wt, I wg, I tn] w (fun _ => False) fun v N => v = .bool (dryGo h m a s wt wg tn (a + 1).toNat 0) := by
  refine walk [] [(4, (ones [0, 1, 2, 4, 6, 7, 8, 9, 10, 11, 12, 13, 3, 5, 14] .fin))] (detC_ok _ _) Try.func20 rfl Try.ntmps20 res20 (by kernel_rfl) no_facts ?_
  simp (config := { maxSteps := 4000000 }) only [↓sx0, ↓sx1, ↓sx2, ↓sx3, ↓sx4, ↓sx5, ↓sx6, sx0, sx1, sx2, sx3, sx4, sx5, sx6, tf20, ev3_hold, sxo, List.all_cons, List.all_nil, Bool.not_eq_true', Bool.not_eq_false', and_self, Bool.false_eq_true, Bool.true_eq_false, false_implies, true_and, and_true, bne_self_eq_false, beq_self_eq_true, Int.reduceBEq, Int.reduceBNe, Int.reduceLT, Int.reduceLE, Int.reduceEq, Int.reduceToNat, Int.toNat_natCast, beq_iff_eq, bne_iff_ne, beq_eq_false_iff_ne, bne_eq_false_iff_eq, Decidable.not_not, ↓reduceIte, if_true, if_false, List.map_cons, List.map_nil, List.reduceReplicate, List.nil_append, List.cons_append, List.append_nil, List.length_cons, List.length_nil, Nat.reduceAdd, Nat.reduceSub, Nat.reduceMul, Nat.reduceLT, Nat.reduceLeDiff, Nat.reduceBEq, Nat.reduceEqDiff, decide_true, decide_false, decide_eq_true_eq, decide_eq_false_iff_not, Bool.and_true, Bool.true_and, Bool.and_false, Bool.false_and, Bool.or_true, Bool.true_or, Bool.or_false, Bool.false_or, Bool.not_true, Bool.not_false, sxc, List.getElem?_cons_zero, List.getElem?_cons_succ, List.drop_zero, List.drop_succ_cons, List.take_zero, List.take_succ_cons, List.zip_cons_cons, List.zip_nil_right, List.toList_toArray, Nat.zero_add, Option.map_some, Option.map_none, Option.isSome_some, true_and, and_true, forall_const, ne_eq, not_false_eq_true, true_implies, implies_true, detC_eq]
  refine loop_const [(10, 30)] (fun k : Nat => [(9, I k)]) (fun k H1 => H1 = [] ∧ k ≤ (a + 1).toNat ∧ dryGo h m a s wt wg tn (a + 1).toNat 0 = dryGo h m a s wt wg tn ((a + 1).toNat - k) k) (fun k => (a + 1).toNat - k) 0 ?_ ⟨rfl, Nat.zero_le _, rfl⟩ ?_
  · simp (config := { maxSteps := 4000000 }) only [↓sx0, ↓sx1, ↓sx2, ↓sx3, ↓sx4, ↓sx5, ↓sx6, sx0, sx1, sx2, sx3, sx4, sx5, sx6, tf20, ev3_hold, sxo, List.all_cons, List.all_nil, Bool.not_eq_true', Bool.not_eq_false', and_self, Bool.false_eq_true, Bool.true_eq_false, false_implies, true_and, and_true, bne_self_eq_false, beq_self_eq_true, Int.reduceBEq, Int.reduceBNe, Int.reduceLT, Int.reduceLE, Int.reduceEq, Int.reduceToNat, Int.toNat_natCast, beq_iff_eq, bne_iff_ne, beq_eq_false_iff_ne, bne_eq_false_iff_eq, Decidable.not_not, ↓reduceIte, if_true, if_false, List.map_cons, List.map_nil, List.reduceReplicate, List.nil_append, List.cons_append, List.append_nil, List.length_cons, List.length_nil, Nat.reduceAdd, Nat.reduceSub, Nat.reduceMul, Nat.reduceLT, Nat.reduceLeDiff, Nat.reduceBEq, Nat.reduceEqDiff, decide_true, decide_false, decide_eq_true_eq, decide_eq_false_iff_not, Bool.and_true, Bool.true_and, Bool.and_false, Bool.false_and, Bool.or_true, Bool.true_or, Bool.or_false, Bool.false_or, Bool.not_true, Bool.not_false, sxc, List.getElem?_cons_zero, List.getElem?_cons_succ, List.drop_zero, List.drop_succ_cons, List.take_zero, List.take_succ_cons, List.zip_cons_cons, List.zip_nil_right, List.toList_toArray, Nat.zero_add, Option.map_some, Option.map_none, Option.isSome_some, true_and, and_true, forall_const, ne_eq, not_false_eq_true, true_implies, implies_true]
    rfl
  · rintro k H1 g ⟨rfl, hk, ht⟩
    simp (config := { maxSteps := 4000000 }) only [↓sx0, ↓sx1, ↓sx2, ↓sx3, ↓sx4, ↓sx5, ↓sx6, sx0, sx1, sx2, sx3, sx4, sx5, sx6, tf20, ev3_hold, sxo, List.all_cons, List.all_nil, Bool.not_eq_true', Bool.not_eq_false', and_self, Bool.false_eq_true, Bool.true_eq_false, false_implies, true_and, and_true, bne_self_eq_false, beq_self_eq_true, Int.reduceBEq, Int.reduceBNe, Int.reduceLT, Int.reduceLE, Int.reduceEq, Int.reduceToNat, Int.toNat_natCast, beq_iff_eq, bne_iff_ne, beq_eq_false_iff_ne, bne_eq_false_iff_eq, Decidable.not_not, ↓reduceIte, if_true, if_false, List.map_cons, List.map_nil, List.reduceReplicate, List.nil_append, List.cons_append, List.append_nil, List.length_cons, List.length_nil, Nat.reduceAdd, Nat.reduceSub, Nat.reduceMul, Nat.reduceLT, Nat.reduceLeDiff, Nat.reduceBEq, Nat.reduceEqDiff, decide_true, decide_false, decide_eq_true_eq, decide_eq_false_iff_not, Bool.and_true, Bool.true_and, Bool.and_false, Bool.false_and, Bool.or_true, Bool.true_or, Bool.or_false, Bool.false_or, Bool.not_true, Bool.not_false, sxc, List.getElem?_cons_zero, List.getElem?_cons_succ, List.drop_zero, List.drop_succ_cons, List.take_zero, List.take_succ_cons, List.zip_cons_cons, List.zip_nil_right, List.toList_toArray, Nat.zero_add, Option.map_some, Option.map_none, Option.isSome_some, true_and, and_true, forall_const, ne_eq, not_false_eq_true, true_implies, implies_true, detC_eq]
    refine ⟨fun h1 => ?_, fun h1 => ?_⟩
    · have hs : dryGo h m a s wt wg tn ((a + 1).toNat - k) k = if wr (roomW h m a s wt k * tn) < wr (wr (wg * k) * wr (a - k)) then false else dryGo h m a s wt wg tn ((a + 1).toNat - (k + 1)) (k + 1) := by
        rw [show (a + 1).toNat - k = ((a + 1).toNat - (k + 1)) + 1 by omega]
        rfl
      rw [hs] at ht
      have e2 : wr (k + 1) = k + 1 := wrap_id (by omega)
      refine ⟨fun h2 => ?_, fun h2 => ?_⟩
      · rw [ht, if_pos h2]
      · simp (config := { maxSteps := 4000000 }) only [↓sx0, ↓sx1, ↓sx2, ↓sx3, ↓sx4, ↓sx5, ↓sx6, sx0, sx1, sx2, sx3, sx4, sx5, sx6, tf20, ev3_hold, sxo, List.all_cons, List.all_nil, Bool.not_eq_true', Bool.not_eq_false', and_self, Bool.false_eq_true, Bool.true_eq_false, false_implies, true_and, and_true, bne_self_eq_false, beq_self_eq_true, Int.reduceBEq, Int.reduceBNe, Int.reduceLT, Int.reduceLE, Int.reduceEq, Int.reduceToNat, Int.toNat_natCast, beq_iff_eq, bne_iff_ne, beq_eq_false_iff_ne, bne_eq_false_iff_eq, Decidable.not_not, ↓reduceIte, if_true, if_false, List.map_cons, List.map_nil, List.reduceReplicate, List.nil_append, List.cons_append, List.append_nil, List.length_cons, List.length_nil, Nat.reduceAdd, Nat.reduceSub, Nat.reduceMul, Nat.reduceLT, Nat.reduceLeDiff, Nat.reduceBEq, Nat.reduceEqDiff, decide_true, decide_false, decide_eq_true_eq, decide_eq_false_iff_not, Bool.and_true, Bool.true_and, Bool.and_false, Bool.false_and, Bool.or_true, Bool.true_or, Bool.or_false, Bool.false_or, Bool.not_true, Bool.not_false, sxc, List.getElem?_cons_zero, List.getElem?_cons_succ, List.drop_zero, List.drop_succ_cons, List.take_zero, List.take_succ_cons, List.zip_cons_cons, List.zip_nil_right, List.toList_toArray, Nat.zero_add, Option.map_some, Option.map_none, Option.isSome_some, true_and, and_true, forall_const, ne_eq, not_false_eq_true, true_implies, implies_true, e2]
        refine ⟨k + 1, _, rfl, HImp.refl _ _, ⟨rfl, by omega, ?_⟩, by omega⟩
        rw [ht, if_neg h2]
    · rw [ht, show (a + 1).toNat - k = 0 by omega]
      rfl

end Go.Proofs.Ytpfbpelkodlljaa
