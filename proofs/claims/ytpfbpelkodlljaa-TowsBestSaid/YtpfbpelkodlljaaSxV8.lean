/- A part of a proof: the symbolic walk and what it shows of single functions. -/
import Derived.Test.YtpfbpelkodlljaaSxV7
import Derived.Test.YtpfbpelkodlljaaSxR2
set_option linter.all false
namespace Go.Proofs.Ytpfbpelkodlljaa
open Go.RowKit Go.SX
set_option maxRecDepth 4000
set_option maxHeartbeats 4000000
set_option linter.unusedSimpArgs false
set_option linter.unusedVariables false

/-! ### Forces -/

theorem mul_bd0 {a b A B : Int} (h1 : 0 ≤ a) (h2 : a ≤ A) (h3 : 0 ≤ b) (h4 : b ≤ B) : 0 ≤ a * b ∧ a * b ≤ A * B :=
  ⟨Int.mul_nonneg h1 h3, Int.mul_le_mul h2 h4 h3 (Int.le_trans h1 h2)⟩

theorem low_fn (w : World) (v : Value) (us : List Tw) (hs : Sl w v 5 (twcs us)) (hb : us.length ≤ 1000) : SX.Fn Try.prog 46 [.agg #[v]] w (fun _ => False) fun r N => Got r 3 1 i1 (us.map Tw.dl) N := by
  obtain ⟨a, n, c, rfl⟩ := hs.shape
  have hn := hs.le (f := twc) twc_len (by omega)
  have hr := hs.rd0
  refine walk [] [] (det0_ok _ _) Try.func46 rfl Try.ntmps46 res46 (by kernel_rfl) no_facts ?_
  simp (config := { maxSteps := 4000000 }) only [↓sx0, ↓sx1, ↓sx2, ↓sx3, ↓sx4, ↓sx5, ↓sx6, sx0, sx1, sx2, sx3, sx4, sx5, sx6, tf46, ev3_hold, sxo, List.all_cons, List.all_nil, Bool.not_eq_true', Bool.not_eq_false', and_self, Bool.false_eq_true, Bool.true_eq_false, false_implies, true_and, and_true, bne_self_eq_false, beq_self_eq_true, Int.reduceBEq, Int.reduceBNe, Int.reduceLT, Int.reduceLE, Int.reduceEq, Int.reduceToNat, Int.toNat_natCast, beq_iff_eq, bne_iff_ne, beq_eq_false_iff_ne, bne_eq_false_iff_eq, Decidable.not_not, ↓reduceIte, if_true, if_false, List.map_cons, List.map_nil, List.reduceReplicate, List.nil_append, List.cons_append, List.append_nil, List.length_cons, List.length_nil, Nat.reduceAdd, Nat.reduceSub, Nat.reduceMul, Nat.reduceLT, Nat.reduceLeDiff, Nat.reduceBEq, Nat.reduceEqDiff, decide_true, decide_false, decide_eq_true_eq, decide_eq_false_iff_not, Bool.and_true, Bool.true_and, Bool.and_false, Bool.false_and, Bool.or_true, Bool.true_or, Bool.or_false, Bool.false_or, Bool.not_true, Bool.not_false, sxc, List.getElem?_cons_zero, List.getElem?_cons_succ, List.drop_zero, List.drop_succ_cons, List.take_zero, List.take_succ_cons, List.zip_cons_cons, List.zip_nil_right, List.toList_toArray, Nat.zero_add, Option.map_some, Option.map_none, Option.isSome_some, true_and, and_true, forall_const, ne_eq, not_false_eq_true, true_implies, implies_true]
  refine loop_constI [.row (.slice none 0 0) 3 1 (ints [])] (HImp.nilRow _ _ _ _) [(3, 21)] (fun p : Nat × Value => [(4, I p.1), (3, p.2)])
    (fun p H1 => p.1 ≤ n ∧ ∃ ad c, p.2 = .slice ad p.1 c ∧ (ad = none → p.1 = 0) ∧ H1 = [.row p.2 3 1 (ints ((us.take p.1).map Tw.dl))]) (fun p => n - p.1) (0, .slice none 0 0) ?_ ⟨Nat.zero_le _, none, 0, rfl, fun _ => rfl, rfl⟩ ?_
  · simp (config := { maxSteps := 4000000 }) only [↓sx0, ↓sx1, ↓sx2, ↓sx3, ↓sx4, ↓sx5, ↓sx6, sx0, sx1, sx2, sx3, sx4, sx5, sx6, tf46, ev3_hold, sxo, List.all_cons, List.all_nil, Bool.not_eq_true', Bool.not_eq_false', and_self, Bool.false_eq_true, Bool.true_eq_false, false_implies, true_and, and_true, bne_self_eq_false, beq_self_eq_true, Int.reduceBEq, Int.reduceBNe, Int.reduceLT, Int.reduceLE, Int.reduceEq, Int.reduceToNat, Int.toNat_natCast, beq_iff_eq, bne_iff_ne, beq_eq_false_iff_ne, bne_eq_false_iff_eq, Decidable.not_not, ↓reduceIte, if_true, if_false, List.map_cons, List.map_nil, List.reduceReplicate, List.nil_append, List.cons_append, List.append_nil, List.length_cons, List.length_nil, Nat.reduceAdd, Nat.reduceSub, Nat.reduceMul, Nat.reduceLT, Nat.reduceLeDiff, Nat.reduceBEq, Nat.reduceEqDiff, decide_true, decide_false, decide_eq_true_eq, decide_eq_false_iff_not, Bool.and_true, Bool.true_and, Bool.and_false, Bool.false_and, Bool.or_true, Bool.true_or, Bool.or_false, Bool.false_or, Bool.not_true, Bool.not_false, sxc, List.getElem?_cons_zero, List.getElem?_cons_succ, List.drop_zero, List.drop_succ_cons, List.take_zero, List.take_succ_cons, List.zip_cons_cons, List.zip_nil_right, List.toList_toArray, Nat.zero_add, Option.map_some, Option.map_none, Option.isSome_some, true_and, and_true, forall_const, ne_eq, not_false_eq_true, true_implies, implies_true]
    simp
  · rintro ⟨k, x⟩ H1 g hinv
    simp only [] at hinv
    obtain ⟨hk, ad, c', rfl, h0, rfl⟩ := hinv
    have e2 : wr (k + 1) = ((k + 1 : Nat) : Int) := (wrap_id (by omega)).trans (by omega)
    simp (config := { maxSteps := 4000000 }) only [↓sx0, ↓sx1, ↓sx2, ↓sx3, ↓sx4, ↓sx5, ↓sx6, sx0, sx1, sx2, sx3, sx4, sx5, sx6, tf46, ev3_hold, sxo, List.all_cons, List.all_nil, Bool.not_eq_true', Bool.not_eq_false', and_self, Bool.false_eq_true, Bool.true_eq_false, false_implies, true_and, and_true, bne_self_eq_false, beq_self_eq_true, Int.reduceBEq, Int.reduceBNe, Int.reduceLT, Int.reduceLE, Int.reduceEq, Int.reduceToNat, Int.toNat_natCast, beq_iff_eq, bne_iff_ne, beq_eq_false_iff_ne, bne_eq_false_iff_eq, Decidable.not_not, ↓reduceIte, if_true, if_false, List.map_cons, List.map_nil, List.reduceReplicate, List.nil_append, List.cons_append, List.append_nil, List.length_cons, List.length_nil, Nat.reduceAdd, Nat.reduceSub, Nat.reduceMul, Nat.reduceLT, Nat.reduceLeDiff, Nat.reduceBEq, Nat.reduceEqDiff, decide_true, decide_false, decide_eq_true_eq, decide_eq_false_iff_not, Bool.and_true, Bool.true_and, Bool.and_false, Bool.false_and, Bool.or_true, Bool.true_or, Bool.or_false, Bool.false_or, Bool.not_true, Bool.not_false, sxc, List.getElem?_cons_zero, List.getElem?_cons_succ, List.drop_zero, List.drop_succ_cons, List.take_zero, List.take_succ_cons, List.zip_cons_cons, List.zip_nil_right, List.toList_toArray, Nat.zero_add, Option.map_some, Option.map_none, Option.isSome_some, true_and, and_true, forall_const, ne_eq, not_false_eq_true, true_implies, implies_true]
    refine ⟨fun h1 => ?_, fun h1 => ?_⟩
    · have hkl : k < us.length := by omega
      refine at_f (hr _) twc_len (List.getElem?_eq_getElem hkl) (o := 0) rfl fun ad => ?_
      simp (config := { maxSteps := 4000000 }) only [↓sx0, ↓sx1, ↓sx2, ↓sx3, ↓sx4, ↓sx5, ↓sx6, sx0, sx1, sx2, sx3, sx4, sx5, sx6, tf46, ev3_hold, sxo, List.all_cons, List.all_nil, Bool.not_eq_true', Bool.not_eq_false', and_self, Bool.false_eq_true, Bool.true_eq_false, false_implies, true_and, and_true, bne_self_eq_false, beq_self_eq_true, Int.reduceBEq, Int.reduceBNe, Int.reduceLT, Int.reduceLE, Int.reduceEq, Int.reduceToNat, Int.toNat_natCast, beq_iff_eq, bne_iff_ne, beq_eq_false_iff_ne, bne_eq_false_iff_eq, Decidable.not_not, ↓reduceIte, if_true, if_false, List.map_cons, List.map_nil, List.reduceReplicate, List.nil_append, List.cons_append, List.append_nil, List.length_cons, List.length_nil, Nat.reduceAdd, Nat.reduceSub, Nat.reduceMul, Nat.reduceLT, Nat.reduceLeDiff, Nat.reduceBEq, Nat.reduceEqDiff, decide_true, decide_false, decide_eq_true_eq, decide_eq_false_iff_not, Bool.and_true, Bool.true_and, Bool.and_false, Bool.false_and, Bool.or_true, Bool.true_or, Bool.or_false, Bool.false_or, Bool.not_true, Bool.not_false, sxc, List.getElem?_cons_zero, List.getElem?_cons_succ, List.drop_zero, List.drop_succ_cons, List.take_zero, List.take_succ_cons, List.zip_cons_cons, List.zip_nil_right, List.toList_toArray, Nat.zero_add, Option.map_some, Option.map_none, Option.isSome_some, true_and, and_true, forall_const, ne_eq, not_false_eq_true, true_implies, implies_true]
      intro b
      have hl : ((us.take k).map Tw.dl).length = k := by simp; omega
      refine app_one (l := (us.take k).map Tw.dl) us[k].dl (HImp.refl _ _) i1_len i1_one (by omega) fun ad1 c1 => ?_
      rw [hl]
      simp (config := { maxSteps := 4000000 }) only [↓sx0, ↓sx1, ↓sx2, ↓sx3, ↓sx4, ↓sx5, ↓sx6, sx0, sx1, sx2, sx3, sx4, sx5, sx6, tf46, ev3_hold, sxo, List.all_cons, List.all_nil, Bool.not_eq_true', Bool.not_eq_false', and_self, Bool.false_eq_true, Bool.true_eq_false, false_implies, true_and, and_true, bne_self_eq_false, beq_self_eq_true, Int.reduceBEq, Int.reduceBNe, Int.reduceLT, Int.reduceLE, Int.reduceEq, Int.reduceToNat, Int.toNat_natCast, beq_iff_eq, bne_iff_ne, beq_eq_false_iff_ne, bne_eq_false_iff_eq, Decidable.not_not, ↓reduceIte, if_true, if_false, List.map_cons, List.map_nil, List.reduceReplicate, List.nil_append, List.cons_append, List.append_nil, List.length_cons, List.length_nil, Nat.reduceAdd, Nat.reduceSub, Nat.reduceMul, Nat.reduceLT, Nat.reduceLeDiff, Nat.reduceBEq, Nat.reduceEqDiff, decide_true, decide_false, decide_eq_true_eq, decide_eq_false_iff_not, Bool.and_true, Bool.true_and, Bool.and_false, Bool.false_and, Bool.or_true, Bool.true_or, Bool.or_false, Bool.false_or, Bool.not_true, Bool.not_false, sxc, List.getElem?_cons_zero, List.getElem?_cons_succ, List.drop_zero, List.drop_succ_cons, List.take_zero, List.take_succ_cons, List.zip_cons_cons, List.zip_nil_right, List.toList_toArray, Nat.zero_add, Option.map_some, Option.map_none, Option.isSome_some, true_and, and_true, forall_const, ne_eq, not_false_eq_true, true_implies, implies_true, e2]
      refine ⟨(k + 1, _), _, ⟨rfl, rfl⟩, HImp.refl _ _, ⟨by simp only []; omega, some ad1, c1, rfl, by simp, ?_⟩, by simp only []; omega⟩
      simp only [List.take_add_one, List.getElem?_eq_getElem hkl, Option.toList, List.map_append, List.map_cons, List.map_nil]
    · have hkn : k = n := by omega
      subst hkn
      rw [List.take_of_length_le (by omega)]
      exact Got.row (by simp [hn]) List.mem_cons_self (fun h => by have := h0 h; rw [List.map_eq_nil_iff]; exact List.eq_nil_of_length_eq_zero (by omega))

theorem high_fn (w : World) (v : Value) (us : List Tw) (hs : Sl w v 5 (twcs us)) (hb : us.length ≤ 1000) : SX.Fn Try.prog 47 [.agg #[v]] w (fun _ => False) fun r N => Got r 3 1 i1 (us.map Tw.dh) N := by
  obtain ⟨a, n, c, rfl⟩ := hs.shape
  have hn := hs.le (f := twc) twc_len (by omega)
  have hr := hs.rd0
  refine walk [] [] (det0_ok _ _) Try.func47 rfl Try.ntmps47 res47 (by kernel_rfl) no_facts ?_
  simp (config := { maxSteps := 4000000 }) only [↓sx0, ↓sx1, ↓sx2, ↓sx3, ↓sx4, ↓sx5, ↓sx6, sx0, sx1, sx2, sx3, sx4, sx5, sx6, tf47, ev3_hold, sxo, List.all_cons, List.all_nil, Bool.not_eq_true', Bool.not_eq_false', and_self, Bool.false_eq_true, Bool.true_eq_false, false_implies, true_and, and_true, bne_self_eq_false, beq_self_eq_true, Int.reduceBEq, Int.reduceBNe, Int.reduceLT, Int.reduceLE, Int.reduceEq, Int.reduceToNat, Int.toNat_natCast, beq_iff_eq, bne_iff_ne, beq_eq_false_iff_ne, bne_eq_false_iff_eq, Decidable.not_not, ↓reduceIte, if_true, if_false, List.map_cons, List.map_nil, List.reduceReplicate, List.nil_append, List.cons_append, List.append_nil, List.length_cons, List.length_nil, Nat.reduceAdd, Nat.reduceSub, Nat.reduceMul, Nat.reduceLT, Nat.reduceLeDiff, Nat.reduceBEq, Nat.reduceEqDiff, decide_true, decide_false, decide_eq_true_eq, decide_eq_false_iff_not, Bool.and_true, Bool.true_and, Bool.and_false, Bool.false_and, Bool.or_true, Bool.true_or, Bool.or_false, Bool.false_or, Bool.not_true, Bool.not_false, sxc, List.getElem?_cons_zero, List.getElem?_cons_succ, List.drop_zero, List.drop_succ_cons, List.take_zero, List.take_succ_cons, List.zip_cons_cons, List.zip_nil_right, List.toList_toArray, Nat.zero_add, Option.map_some, Option.map_none, Option.isSome_some, true_and, and_true, forall_const, ne_eq, not_false_eq_true, true_implies, implies_true]
  refine loop_constI [.row (.slice none 0 0) 3 1 (ints [])] (HImp.nilRow _ _ _ _) [(3, 21)] (fun p : Nat × Value => [(4, I p.1), (3, p.2)])
    (fun p H1 => p.1 ≤ n ∧ ∃ ad c, p.2 = .slice ad p.1 c ∧ (ad = none → p.1 = 0) ∧ H1 = [.row p.2 3 1 (ints ((us.take p.1).map Tw.dh))]) (fun p => n - p.1) (0, .slice none 0 0) ?_ ⟨Nat.zero_le _, none, 0, rfl, fun _ => rfl, rfl⟩ ?_
  · simp (config := { maxSteps := 4000000 }) only [↓sx0, ↓sx1, ↓sx2, ↓sx3, ↓sx4, ↓sx5, ↓sx6, sx0, sx1, sx2, sx3, sx4, sx5, sx6, tf47, ev3_hold, sxo, List.all_cons, List.all_nil, Bool.not_eq_true', Bool.not_eq_false', and_self, Bool.false_eq_true, Bool.true_eq_false, false_implies, true_and, and_true, bne_self_eq_false, beq_self_eq_true, Int.reduceBEq, Int.reduceBNe, Int.reduceLT, Int.reduceLE, Int.reduceEq, Int.reduceToNat, Int.toNat_natCast, beq_iff_eq, bne_iff_ne, beq_eq_false_iff_ne, bne_eq_false_iff_eq, Decidable.not_not, ↓reduceIte, if_true, if_false, List.map_cons, List.map_nil, List.reduceReplicate, List.nil_append, List.cons_append, List.append_nil, List.length_cons, List.length_nil, Nat.reduceAdd, Nat.reduceSub, Nat.reduceMul, Nat.reduceLT, Nat.reduceLeDiff, Nat.reduceBEq, Nat.reduceEqDiff, decide_true, decide_false, decide_eq_true_eq, decide_eq_false_iff_not, Bool.and_true, Bool.true_and, Bool.and_false, Bool.false_and, Bool.or_true, Bool.true_or, Bool.or_false, Bool.false_or, Bool.not_true, Bool.not_false, sxc, List.getElem?_cons_zero, List.getElem?_cons_succ, List.drop_zero, List.drop_succ_cons, List.take_zero, List.take_succ_cons, List.zip_cons_cons, List.zip_nil_right, List.toList_toArray, Nat.zero_add, Option.map_some, Option.map_none, Option.isSome_some, true_and, and_true, forall_const, ne_eq, not_false_eq_true, true_implies, implies_true]
    simp
  · rintro ⟨k, x⟩ H1 g hinv
    simp only [] at hinv
    obtain ⟨hk, ad, c', rfl, h0, rfl⟩ := hinv
    have e2 : wr (k + 1) = ((k + 1 : Nat) : Int) := (wrap_id (by omega)).trans (by omega)
    simp (config := { maxSteps := 4000000 }) only [↓sx0, ↓sx1, ↓sx2, ↓sx3, ↓sx4, ↓sx5, ↓sx6, sx0, sx1, sx2, sx3, sx4, sx5, sx6, tf47, ev3_hold, sxo, List.all_cons, List.all_nil, Bool.not_eq_true', Bool.not_eq_false', and_self, Bool.false_eq_true, Bool.true_eq_false, false_implies, true_and, and_true, bne_self_eq_false, beq_self_eq_true, Int.reduceBEq, Int.reduceBNe, Int.reduceLT, Int.reduceLE, Int.reduceEq, Int.reduceToNat, Int.toNat_natCast, beq_iff_eq, bne_iff_ne, beq_eq_false_iff_ne, bne_eq_false_iff_eq, Decidable.not_not, ↓reduceIte, if_true, if_false, List.map_cons, List.map_nil, List.reduceReplicate, List.nil_append, List.cons_append, List.append_nil, List.length_cons, List.length_nil, Nat.reduceAdd, Nat.reduceSub, Nat.reduceMul, Nat.reduceLT, Nat.reduceLeDiff, Nat.reduceBEq, Nat.reduceEqDiff, decide_true, decide_false, decide_eq_true_eq, decide_eq_false_iff_not, Bool.and_true, Bool.true_and, Bool.and_false, Bool.false_and, Bool.or_true, Bool.true_or, Bool.or_false, Bool.false_or, Bool.not_true, Bool.not_false, sxc, List.getElem?_cons_zero, List.getElem?_cons_succ, List.drop_zero, List.drop_succ_cons, List.take_zero, List.take_succ_cons, List.zip_cons_cons, List.zip_nil_right, List.toList_toArray, Nat.zero_add, Option.map_some, Option.map_none, Option.isSome_some, true_and, and_true, forall_const, ne_eq, not_false_eq_true, true_implies, implies_true]
    refine ⟨fun h1 => ?_, fun h1 => ?_⟩
    · have hkl : k < us.length := by omega
      refine at_f (hr _) twc_len (List.getElem?_eq_getElem hkl) (o := 1) rfl fun ad => ?_
      simp (config := { maxSteps := 4000000 }) only [↓sx0, ↓sx1, ↓sx2, ↓sx3, ↓sx4, ↓sx5, ↓sx6, sx0, sx1, sx2, sx3, sx4, sx5, sx6, tf47, ev3_hold, sxo, List.all_cons, List.all_nil, Bool.not_eq_true', Bool.not_eq_false', and_self, Bool.false_eq_true, Bool.true_eq_false, false_implies, true_and, and_true, bne_self_eq_false, beq_self_eq_true, Int.reduceBEq, Int.reduceBNe, Int.reduceLT, Int.reduceLE, Int.reduceEq, Int.reduceToNat, Int.toNat_natCast, beq_iff_eq, bne_iff_ne, beq_eq_false_iff_ne, bne_eq_false_iff_eq, Decidable.not_not, ↓reduceIte, if_true, if_false, List.map_cons, List.map_nil, List.reduceReplicate, List.nil_append, List.cons_append, List.append_nil, List.length_cons, List.length_nil, Nat.reduceAdd, Nat.reduceSub, Nat.reduceMul, Nat.reduceLT, Nat.reduceLeDiff, Nat.reduceBEq, Nat.reduceEqDiff, decide_true, decide_false, decide_eq_true_eq, decide_eq_false_iff_not, Bool.and_true, Bool.true_and, Bool.and_false, Bool.false_and, Bool.or_true, Bool.true_or, Bool.or_false, Bool.false_or, Bool.not_true, Bool.not_false, sxc, List.getElem?_cons_zero, List.getElem?_cons_succ, List.drop_zero, List.drop_succ_cons, List.take_zero, List.take_succ_cons, List.zip_cons_cons, List.zip_nil_right, List.toList_toArray, Nat.zero_add, Option.map_some, Option.map_none, Option.isSome_some, true_and, and_true, forall_const, ne_eq, not_false_eq_true, true_implies, implies_true]
      intro b
      have hl : ((us.take k).map Tw.dh).length = k := by simp; omega
      refine app_one (l := (us.take k).map Tw.dh) us[k].dh (HImp.refl _ _) i1_len i1_one (by omega) fun ad1 c1 => ?_
      rw [hl]
      simp (config := { maxSteps := 4000000 }) only [↓sx0, ↓sx1, ↓sx2, ↓sx3, ↓sx4, ↓sx5, ↓sx6, sx0, sx1, sx2, sx3, sx4, sx5, sx6, tf47, ev3_hold, sxo, List.all_cons, List.all_nil, Bool.not_eq_true', Bool.not_eq_false', and_self, Bool.false_eq_true, Bool.true_eq_false, false_implies, true_and, and_true, bne_self_eq_false, beq_self_eq_true, Int.reduceBEq, Int.reduceBNe, Int.reduceLT, Int.reduceLE, Int.reduceEq, Int.reduceToNat, Int.toNat_natCast, beq_iff_eq, bne_iff_ne, beq_eq_false_iff_ne, bne_eq_false_iff_eq, Decidable.not_not, ↓reduceIte, if_true, if_false, List.map_cons, List.map_nil, List.reduceReplicate, List.nil_append, List.cons_append, List.append_nil, List.length_cons, List.length_nil, Nat.reduceAdd, Nat.reduceSub, Nat.reduceMul, Nat.reduceLT, Nat.reduceLeDiff, Nat.reduceBEq, Nat.reduceEqDiff, decide_true, decide_false, decide_eq_true_eq, decide_eq_false_iff_not, Bool.and_true, Bool.true_and, Bool.and_false, Bool.false_and, Bool.or_true, Bool.true_or, Bool.or_false, Bool.false_or, Bool.not_true, Bool.not_false, sxc, List.getElem?_cons_zero, List.getElem?_cons_succ, List.drop_zero, List.drop_succ_cons, List.take_zero, List.take_succ_cons, List.zip_cons_cons, List.zip_nil_right, List.toList_toArray, Nat.zero_add, Option.map_some, Option.map_none, Option.isSome_some, true_and, and_true, forall_const, ne_eq, not_false_eq_true, true_implies, implies_true, e2]
      refine ⟨(k + 1, _), _, ⟨rfl, rfl⟩, HImp.refl _ _, ⟨by simp only []; omega, some ad1, c1, rfl, by simp, ?_⟩, by simp only []; omega⟩
      simp only [List.take_add_one, List.getElem?_eq_getElem hkl, Option.toList, List.map_append, List.map_cons, List.map_nil]
    · have hkn : k = n := by omega
      subst hkn
      rw [List.take_of_length_le (by omega)]
      exact Got.row (by simp [hn]) List.mem_cons_self (fun h => by have := h0 h; rw [List.map_eq_nil_iff]; exact List.eq_nil_of_length_eq_zero (by omega))


/-- Numbers that are no drags of a train too great to be summed. -/
def smallL (l : List Int) : Prop := l.length ≤ 8 ∧ ∀ x ∈ l, 0 ≤ x ∧ x ≤ 100

theorem small_sum {l : List Int} (h : ∀ x ∈ l, 0 ≤ x ∧ x ≤ 100) : 0 ≤ l.sum ∧ l.sum ≤ 100 * l.length := by
  induction l with
  | nil => simp
  | cons x l ih =>
    have h1 := h x List.mem_cons_self
    have h2 := ih fun y hy => h y (List.mem_cons_of_mem _ hy)
    rw [List.sum_cons, List.length_cons]
    omega

theorem sum_take_succ {l : List Int} {k : Nat} (h : k < l.length) : (l.take (k + 1)).sum = (l.take k).sum + l[k] := by
  rw [← List.take_append_getElem h, List.sum_append]
  simp

theorem force_fn (w : World) (s : Value) (l : List Int) (i : Nat) (v : Int) (hs : Sl w s 1 (ints l)) (hl : smallL l) (hi : i ≤ l.length) (hv : 0 ≤ v ∧ v ≤ 20) :
    SX.Fn Try.prog 45 [s, I i, I v] w (fun _ => False) fun r N => r = I (v * v * (l.drop i).sum) := by
  obtain ⟨a, n, c, rfl⟩ := hs.shape
  have hn := hs.le i1_len (by omega)
  have hr := hs.rd0
  have h8 := hl.1
  refine walk [] [] (det0_ok _ _) Try.func45 rfl Try.ntmps45 res45 (by kernel_rfl) no_facts ?_
  simp (config := { maxSteps := 4000000 }) only [↓sx0, ↓sx1, ↓sx2, ↓sx3, ↓sx4, ↓sx5, ↓sx6, sx0, sx1, sx2, sx3, sx4, sx5, sx6, tf45, ev3_hold, sxo, List.all_cons, List.all_nil, Bool.not_eq_true', Bool.not_eq_false', and_self, Bool.false_eq_true, Bool.true_eq_false, false_implies, true_and, and_true, bne_self_eq_false, beq_self_eq_true, Int.reduceBEq, Int.reduceBNe, Int.reduceLT, Int.reduceLE, Int.reduceEq, Int.reduceToNat, Int.toNat_natCast, beq_iff_eq, bne_iff_ne, beq_eq_false_iff_ne, bne_eq_false_iff_eq, Decidable.not_not, ↓reduceIte, if_true, if_false, List.map_cons, List.map_nil, List.reduceReplicate, List.nil_append, List.cons_append, List.append_nil, List.length_cons, List.length_nil, Nat.reduceAdd, Nat.reduceSub, Nat.reduceMul, Nat.reduceLT, Nat.reduceLeDiff, Nat.reduceBEq, Nat.reduceEqDiff, decide_true, decide_false, decide_eq_true_eq, decide_eq_false_iff_not, Bool.and_true, Bool.true_and, Bool.and_false, Bool.false_and, Bool.or_true, Bool.true_or, Bool.or_false, Bool.false_or, Bool.not_true, Bool.not_false, sxc, List.getElem?_cons_zero, List.getElem?_cons_succ, List.drop_zero, List.drop_succ_cons, List.take_zero, List.take_succ_cons, List.zip_cons_cons, List.zip_nil_right, List.toList_toArray, Nat.zero_add, Option.map_some, Option.map_none, Option.isSome_some, true_and, and_true, forall_const, ne_eq, not_false_eq_true, true_implies, implies_true]
  refine loop_const [(7, 8), (10, 21)] (fun k : Nat => [(8, I ((i + k : Nat) : Int)), (7, I ((l.drop i).take k).sum)]) (fun k H1 => H1 = [] ∧ i + k ≤ n) (fun k => n - k) 0 ?_ ⟨rfl, by omega⟩ ?_
  · simp (config := { maxSteps := 4000000 }) only [↓sx0, ↓sx1, ↓sx2, ↓sx3, ↓sx4, ↓sx5, ↓sx6, sx0, sx1, sx2, sx3, sx4, sx5, sx6, tf45, ev3_hold, sxo, List.all_cons, List.all_nil, Bool.not_eq_true', Bool.not_eq_false', and_self, Bool.false_eq_true, Bool.true_eq_false, false_implies, true_and, and_true, bne_self_eq_false, beq_self_eq_true, Int.reduceBEq, Int.reduceBNe, Int.reduceLT, Int.reduceLE, Int.reduceEq, Int.reduceToNat, Int.toNat_natCast, beq_iff_eq, bne_iff_ne, beq_eq_false_iff_ne, bne_eq_false_iff_eq, Decidable.not_not, ↓reduceIte, if_true, if_false, List.map_cons, List.map_nil, List.reduceReplicate, List.nil_append, List.cons_append, List.append_nil, List.length_cons, List.length_nil, Nat.reduceAdd, Nat.reduceSub, Nat.reduceMul, Nat.reduceLT, Nat.reduceLeDiff, Nat.reduceBEq, Nat.reduceEqDiff, decide_true, decide_false, decide_eq_true_eq, decide_eq_false_iff_not, Bool.and_true, Bool.true_and, Bool.and_false, Bool.false_and, Bool.or_true, Bool.true_or, Bool.or_false, Bool.false_or, Bool.not_true, Bool.not_false, sxc, List.getElem?_cons_zero, List.getElem?_cons_succ, List.drop_zero, List.drop_succ_cons, List.take_zero, List.take_succ_cons, List.zip_cons_cons, List.zip_nil_right, List.toList_toArray, Nat.zero_add, Option.map_some, Option.map_none, Option.isSome_some, true_and, and_true, forall_const, ne_eq, not_false_eq_true, true_implies, implies_true]
    simp
  · rintro k H1 g ⟨rfl, hk⟩
    have e2 : wr (((i + k : Nat) : Int) + 1) = ((i + (k + 1) : Nat) : Int) := (wrap_id (by omega)).trans (by omega)
    simp (config := { maxSteps := 4000000 }) only [↓sx0, ↓sx1, ↓sx2, ↓sx3, ↓sx4, ↓sx5, ↓sx6, sx0, sx1, sx2, sx3, sx4, sx5, sx6, tf45, ev3_hold, sxo, List.all_cons, List.all_nil, Bool.not_eq_true', Bool.not_eq_false', and_self, Bool.false_eq_true, Bool.true_eq_false, false_implies, true_and, and_true, bne_self_eq_false, beq_self_eq_true, Int.reduceBEq, Int.reduceBNe, Int.reduceLT, Int.reduceLE, Int.reduceEq, Int.reduceToNat, Int.toNat_natCast, beq_iff_eq, bne_iff_ne, beq_eq_false_iff_ne, bne_eq_false_iff_eq, Decidable.not_not, ↓reduceIte, if_true, if_false, List.map_cons, List.map_nil, List.reduceReplicate, List.nil_append, List.cons_append, List.append_nil, List.length_cons, List.length_nil, Nat.reduceAdd, Nat.reduceSub, Nat.reduceMul, Nat.reduceLT, Nat.reduceLeDiff, Nat.reduceBEq, Nat.reduceEqDiff, decide_true, decide_false, decide_eq_true_eq, decide_eq_false_iff_not, Bool.and_true, Bool.true_and, Bool.and_false, Bool.false_and, Bool.or_true, Bool.true_or, Bool.or_false, Bool.false_or, Bool.not_true, Bool.not_false, sxc, List.getElem?_cons_zero, List.getElem?_cons_succ, List.drop_zero, List.drop_succ_cons, List.take_zero, List.take_succ_cons, List.zip_cons_cons, List.zip_nil_right, List.toList_toArray, Nat.zero_add, Option.map_some, Option.map_none, Option.isSome_some, true_and, and_true, forall_const, ne_eq, not_false_eq_true, true_implies, implies_true, e2]
    refine ⟨fun h1 => ?_, fun h1 => ?_⟩
    · have hkl : i + k < l.length := by omega
      have hkd : k < (l.drop i).length := by simp; omega
      refine at_1 (hr _) i1_len (List.getElem?_eq_getElem hkl) rfl fun ad => ?_
      have hb := small_sum (l := (l.drop i).take (k + 1)) fun x hx => hl.2 x (List.mem_of_mem_drop (List.mem_of_mem_take hx))
      have hb' : ((l.drop i).take (k + 1)).length ≤ 8 := by simp; omega
      have he := sum_take_succ hkd
      rw [List.getElem_drop] at he
      have e3 : IntKind.i64.wrap ((((l.drop i).take k).sum) + l[i + k]) = ((l.drop i).take (k + 1)).sum := (wrap_id (by omega)).trans he.symm
      simp (config := { maxSteps := 4000000 }) only [↓sx0, ↓sx1, ↓sx2, ↓sx3, ↓sx4, ↓sx5, ↓sx6, sx0, sx1, sx2, sx3, sx4, sx5, sx6, tf45, ev3_hold, sxo, List.all_cons, List.all_nil, Bool.not_eq_true', Bool.not_eq_false', and_self, Bool.false_eq_true, Bool.true_eq_false, false_implies, true_and, and_true, bne_self_eq_false, beq_self_eq_true, Int.reduceBEq, Int.reduceBNe, Int.reduceLT, Int.reduceLE, Int.reduceEq, Int.reduceToNat, Int.toNat_natCast, beq_iff_eq, bne_iff_ne, beq_eq_false_iff_ne, bne_eq_false_iff_eq, Decidable.not_not, ↓reduceIte, if_true, if_false, List.map_cons, List.map_nil, List.reduceReplicate, List.nil_append, List.cons_append, List.append_nil, List.length_cons, List.length_nil, Nat.reduceAdd, Nat.reduceSub, Nat.reduceMul, Nat.reduceLT, Nat.reduceLeDiff, Nat.reduceBEq, Nat.reduceEqDiff, decide_true, decide_false, decide_eq_true_eq, decide_eq_false_iff_not, Bool.and_true, Bool.true_and, Bool.and_false, Bool.false_and, Bool.or_true, Bool.true_or, Bool.or_false, Bool.false_or, Bool.not_true, Bool.not_false, sxc, List.getElem?_cons_zero, List.getElem?_cons_succ, List.drop_zero, List.drop_succ_cons, List.take_zero, List.take_succ_cons, List.zip_cons_cons, List.zip_nil_right, List.toList_toArray, Nat.zero_add, Option.map_some, Option.map_none, Option.isSome_some, true_and, and_true, forall_const, ne_eq, not_false_eq_true, true_implies, implies_true, e2, e3]
      exact ⟨k + 1, _, ⟨rfl, rfl⟩, HImp.refl _ _, ⟨rfl, by omega⟩, by omega⟩
    · have hkn : i + k = n := by omega
      rw [List.take_of_length_le (by simp; omega)]
      have hb := small_sum (l := l.drop i) fun x hx => hl.2 x (List.mem_of_mem_drop hx)
      have hb' : (l.drop i).length ≤ 8 := by simp; omega
      have hvv := mul_bd0 hv.1 hv.2 hv.1 hv.2
      have hvs := mul_bd0 hvv.1 hvv.2 hb.1 (show (l.drop i).sum ≤ 800 by omega)
      have e4 : wr (v * v) = v * v := wrap_id (by omega)
      have e5 : wr (v * v * (l.drop i).sum) = v * v * (l.drop i).sum := wrap_id (by omega)
      rw [show IntKind.i64.wrap (v * v) = v * v from e4, show IntKind.i64.wrap (v * v * (l.drop i).sum) = v * v * (l.drop i).sum from e5]

/-! ### Spans -/

def spc (p : Int × Int) : List Value := [I p.1, I p.2]
theorem spc_len (p : Int × Int) : (spc p).length = 2 := rfl
theorem spc_one (p : Int × Int) : ∀ y ∈ spc p, y.oneCell' = true := by simp [spc, Value.oneCell']

def forceP (us : List Tw) (v : Int) (i : Nat) : Int × Int := (v * v * loS us i, v * v * hiS us i)
def forcesE (us : List Tw) (v : Int) : Int := if trainB us then (if inB v 1 20 then 0 else 1) else 90
def forcesR (us : List Tw) (v : Int) : List (Int × Int) := if forcesE us v = 0 then (List.range us.length).map (forceP us v) else []

/-- What Forces has written behind k rounds. -/
def forceK (us : List Tw) (v : Int) (k : Nat) : List (Int × Int) := (List.range us.length).map fun i => if us.length - k ≤ i then forceP us v i else (0, 0)

theorem forceK_set {us : List Tw} {v : Int} {k : Nat} (h : k < us.length) : (forceK us v k).set (us.length - 1 - k) (forceP us v (us.length - 1 - k)) = forceK us v (k + 1) := by
  apply List.ext_getElem?
  intro i
  unfold forceK
  by_cases hi : i < us.length
  · rw [List.getElem?_set]
    simp only [List.length_map, List.length_range, List.getElem?_map, List.getElem?_range hi, Option.map_some]
    by_cases he : us.length - 1 - k = i
    · subst he
      rw [if_pos rfl, if_pos (by omega), if_pos (by omega)]
    · rw [if_neg he]
      by_cases hk : us.length - k ≤ i
      · rw [if_pos hk, if_pos (by omega)]
      · rw [if_neg hk, if_neg (by omega)]
  · rw [List.getElem?_eq_none (by simp; omega), List.getElem?_eq_none (by simp; omega)]

theorem forces_fn (w : World) (s : Value) (us : List Tw) (v : Int) (hs : Sl w s 5 (twcs us)) :
    SX.Fn Try.prog 22 [.agg #[s], I v] w (fun _ => False) fun r N => ∃ x, r = .tuple #[x, I (forcesE us v)] ∧ Got x 23 2 spc (forcesR us v) N := by
  obtain ⟨a, n, c, rfl⟩ := hs.shape
  have hn := hs.le (f := twc) twc_len (by omega)
  have hD := detG_ok (X := fun _ => False) hs (fun _ _ => id)
  refine walk [] [] hD Try.func22 rfl Try.ntmps22 res22 (by kernel_rfl) no_facts ?_
  by_cases ht : trainB us = true
  · by_cases hv : inB v 1 20 = true
    · have he : forcesE us v = 0 := by simp [forcesE, ht, hv]
      have hok := (train_iff us).1 ht
      have hv' : 1 ≤ v ∧ v ≤ 20 := by simpa [inB] using hv
      have h8 := hok.2.1
      simp (config := { maxSteps := 4000000 }) only [↓sx0, ↓sx1, ↓sx2, ↓sx3, ↓sx4, ↓sx5, ↓sx6, sx0, sx1, sx2, sx3, sx4, sx5, sx6, tf22, ev3_hold, sxo, List.all_cons, List.all_nil, Bool.not_eq_true', Bool.not_eq_false', and_self, Bool.false_eq_true, Bool.true_eq_false, false_implies, true_and, and_true, bne_self_eq_false, beq_self_eq_true, Int.reduceBEq, Int.reduceBNe, Int.reduceLT, Int.reduceLE, Int.reduceEq, Int.reduceToNat, Int.toNat_natCast, beq_iff_eq, bne_iff_ne, beq_eq_false_iff_ne, bne_eq_false_iff_eq, Decidable.not_not, ↓reduceIte, if_true, if_false, List.map_cons, List.map_nil, List.reduceReplicate, List.nil_append, List.cons_append, List.append_nil, List.length_cons, List.length_nil, Nat.reduceAdd, Nat.reduceSub, Nat.reduceMul, Nat.reduceLT, Nat.reduceLeDiff, Nat.reduceBEq, Nat.reduceEqDiff, decide_true, decide_false, decide_eq_true_eq, decide_eq_false_iff_not, Bool.and_true, Bool.true_and, Bool.and_false, Bool.false_and, Bool.or_true, Bool.true_or, Bool.or_false, Bool.false_or, Bool.not_true, Bool.not_false, sxc, List.getElem?_cons_zero, List.getElem?_cons_succ, List.drop_zero, List.drop_succ_cons, List.take_zero, List.take_succ_cons, List.zip_cons_cons, List.zip_nil_right, List.toList_toArray, Nat.zero_add, Option.map_some, Option.map_none, Option.isSome_some, true_and, and_true, forall_const, ne_eq, not_false_eq_true, true_implies, implies_true, detG_eq, ht, hv]
      refine ⟨by omega, by omega, by omega, fun b => ?_⟩
      rw [show ([Value.int .i64 0, Value.int .i64 0] : List Value) = spc (0, 0) from rfl, zeros_cat, ← hn]
      refine range_introR Try.call44 us.length (dragArg us) [] [.row (.slice (some ⟨b, 0, none⟩) us.length us.length) 23 2 (cat spc (forceK us v 0))] (fun k L' H' => H' = [.row (.slice (some ⟨b, 0, none⟩) us.length us.length) 23 2 (cat spc (forceK us v k))] ∧ L' = [(34, [.slice a us.length c]), (3, [I v]), (55, [.slice (some ⟨b, 0, none⟩) us.length us.length])]) (rsl w (.slice a us.length c))
        ?_ (fun x hx => .inl ⟨hx.2, id⟩) (fun w' hp => ?_) ⟨rfl, rfl⟩ ?_ ?_ ?_
      · have : List.replicate us.length ((0 : Int), (0 : Int)) = forceK us v 0 := by
          apply List.ext_getElem?
          intro i
          unfold forceK
          by_cases hi : i < us.length
          · simp [hi, List.getElem?_replicate]
            omega
          · simp [hi, List.getElem?_replicate]
        simp only [Int.toNat_natCast, this]
        exact HImp.refl _ _
      · subst hn
        have := drags_it w' (.slice a us.length c) us (hs.hpR (fun _ _ => id) hp) hok
        exact this.mono fun x hx => hs.rsl (by rw [twcs_cat, cat_len twc_len]; have := hok.1; omega) hx
      · rintro k vs F ⟨rfl, _⟩
        rfl
      · rintro k vs F L' H' hk ⟨rfl, rfl⟩ - ⟨rfl, rfl⟩
        have hvv := mul_bd0 (show 0 ≤ v by omega) hv'.2 (show 0 ≤ v by omega) hv'.2
        have b1 := loS_bd hok (us.length - 1 - k)
        have b2 := hiS_bd hok (us.length - 1 - k)
        have m1 := mul_bd0 hvv.1 hvv.2 b1.1 b1.2
        have m2 := mul_bd0 hvv.1 hvv.2 b2.1 b2.2
        have e1 : wr (v * v) = v * v := wrap_id (by omega)
        have e2 : wr (v * v * loS us (us.length - 1 - k)) = v * v * loS us (us.length - 1 - k) := wrap_id (by omega)
        have e3 : wr (v * v * hiS us (us.length - 1 - k)) = v * v * hiS us (us.length - 1 - k) := wrap_id (by omega)
        have hlk : (forceK us v k).length = us.length := by simp [forceK]
        simp (config := { maxSteps := 4000000 }) only [↓sx0, ↓sx1, ↓sx2, ↓sx3, ↓sx4, ↓sx5, ↓sx6, sx0, sx1, sx2, sx3, sx4, sx5, sx6, tf22, ev3_hold, sxo, List.all_cons, List.all_nil, Bool.not_eq_true', Bool.not_eq_false', and_self, Bool.false_eq_true, Bool.true_eq_false, false_implies, true_and, and_true, bne_self_eq_false, beq_self_eq_true, Int.reduceBEq, Int.reduceBNe, Int.reduceLT, Int.reduceLE, Int.reduceEq, Int.reduceToNat, Int.toNat_natCast, beq_iff_eq, bne_iff_ne, beq_eq_false_iff_ne, bne_eq_false_iff_eq, Decidable.not_not, ↓reduceIte, if_true, if_false, List.map_cons, List.map_nil, List.reduceReplicate, List.nil_append, List.cons_append, List.append_nil, List.length_cons, List.length_nil, Nat.reduceAdd, Nat.reduceSub, Nat.reduceMul, Nat.reduceLT, Nat.reduceLeDiff, Nat.reduceBEq, Nat.reduceEqDiff, decide_true, decide_false, decide_eq_true_eq, decide_eq_false_iff_not, Bool.and_true, Bool.true_and, Bool.and_false, Bool.false_and, Bool.or_true, Bool.true_or, Bool.or_false, Bool.false_or, Bool.not_true, Bool.not_false, sxc, List.getElem?_cons_zero, List.getElem?_cons_succ, List.drop_zero, List.drop_succ_cons, List.take_zero, List.take_succ_cons, List.zip_cons_cons, List.zip_nil_right, List.toList_toArray, Nat.zero_add, Option.map_some, Option.map_none, Option.isSome_some, true_and, and_true, forall_const, ne_eq, not_false_eq_true, true_implies, implies_true, e1, e2, e3]
        refine ⟨by omega, by omega, _, rfl, ?_⟩
        refine wr_at (A := []) (f := spc) (u := forceP us v (us.length - 1 - k)) rfl spc_len hlk (by omega) ?_
        rw [forceK_set hk]
        simp (config := { maxSteps := 4000000 }) only [↓sx0, ↓sx1, ↓sx2, ↓sx3, ↓sx4, ↓sx5, ↓sx6, sx0, sx1, sx2, sx3, sx4, sx5, sx6, tf22, ev3_hold, sxo, List.all_cons, List.all_nil, Bool.not_eq_true', Bool.not_eq_false', and_self, Bool.false_eq_true, Bool.true_eq_false, false_implies, true_and, and_true, bne_self_eq_false, beq_self_eq_true, Int.reduceBEq, Int.reduceBNe, Int.reduceLT, Int.reduceLE, Int.reduceEq, Int.reduceToNat, Int.toNat_natCast, beq_iff_eq, bne_iff_ne, beq_eq_false_iff_ne, bne_eq_false_iff_eq, Decidable.not_not, ↓reduceIte, if_true, if_false, List.map_cons, List.map_nil, List.reduceReplicate, List.nil_append, List.cons_append, List.append_nil, List.length_cons, List.length_nil, Nat.reduceAdd, Nat.reduceSub, Nat.reduceMul, Nat.reduceLT, Nat.reduceLeDiff, Nat.reduceBEq, Nat.reduceEqDiff, decide_true, decide_false, decide_eq_true_eq, decide_eq_false_iff_not, Bool.and_true, Bool.true_and, Bool.and_false, Bool.false_and, Bool.or_true, Bool.true_or, Bool.or_false, Bool.false_or, Bool.not_true, Bool.not_false, sxc, List.getElem?_cons_zero, List.getElem?_cons_succ, List.drop_zero, List.drop_succ_cons, List.take_zero, List.take_succ_cons, List.zip_cons_cons, List.zip_nil_right, List.toList_toArray, Nat.zero_add, Option.map_some, Option.map_none, Option.isSome_some, true_and, and_true, forall_const, ne_eq, not_false_eq_true, true_implies, implies_true]
        exact ⟨_, HImp.refl _ _, rfl⟩
      · rintro L' H' - ⟨rfl, rfl⟩
        simp (config := { maxSteps := 4000000 }) only [↓sx0, ↓sx1, ↓sx2, ↓sx3, ↓sx4, ↓sx5, ↓sx6, sx0, sx1, sx2, sx3, sx4, sx5, sx6, tf22, ev3_hold, sxo, List.all_cons, List.all_nil, Bool.not_eq_true', Bool.not_eq_false', and_self, Bool.false_eq_true, Bool.true_eq_false, false_implies, true_and, and_true, bne_self_eq_false, beq_self_eq_true, Int.reduceBEq, Int.reduceBNe, Int.reduceLT, Int.reduceLE, Int.reduceEq, Int.reduceToNat, Int.toNat_natCast, beq_iff_eq, bne_iff_ne, beq_eq_false_iff_ne, bne_eq_false_iff_eq, Decidable.not_not, ↓reduceIte, if_true, if_false, List.map_cons, List.map_nil, List.reduceReplicate, List.nil_append, List.cons_append, List.append_nil, List.length_cons, List.length_nil, Nat.reduceAdd, Nat.reduceSub, Nat.reduceMul, Nat.reduceLT, Nat.reduceLeDiff, Nat.reduceBEq, Nat.reduceEqDiff, decide_true, decide_false, decide_eq_true_eq, decide_eq_false_iff_not, Bool.and_true, Bool.true_and, Bool.and_false, Bool.false_and, Bool.or_true, Bool.true_or, Bool.or_false, Bool.false_or, Bool.not_true, Bool.not_false, sxc, List.getElem?_cons_zero, List.getElem?_cons_succ, List.drop_zero, List.drop_succ_cons, List.take_zero, List.take_succ_cons, List.zip_cons_cons, List.zip_nil_right, List.toList_toArray, Nat.zero_add, Option.map_some, Option.map_none, Option.isSome_some, true_and, and_true, forall_const, ne_eq, not_false_eq_true, true_implies, implies_true]
        have hfk : forceK us v us.length = forcesR us v := by
          rw [forcesR, if_pos he]
          unfold forceK
          apply List.map_congr_left
          intro i _
          rw [if_pos (by omega)]
        refine ⟨_, by rw [he], ?_⟩
        rw [← hfk]
        exact Got.row (by simp [forceK]) List.mem_cons_self (by simp)
    · have he : forcesE us v = 1 := by simp [forcesE, ht, hv]
      simp (config := { maxSteps := 4000000 }) only [↓sx0, ↓sx1, ↓sx2, ↓sx3, ↓sx4, ↓sx5, ↓sx6, sx0, sx1, sx2, sx3, sx4, sx5, sx6, tf22, ev3_hold, sxo, List.all_cons, List.all_nil, Bool.not_eq_true', Bool.not_eq_false', and_self, Bool.false_eq_true, Bool.true_eq_false, false_implies, true_and, and_true, bne_self_eq_false, beq_self_eq_true, Int.reduceBEq, Int.reduceBNe, Int.reduceLT, Int.reduceLE, Int.reduceEq, Int.reduceToNat, Int.toNat_natCast, beq_iff_eq, bne_iff_ne, beq_eq_false_iff_ne, bne_eq_false_iff_eq, Decidable.not_not, ↓reduceIte, if_true, if_false, List.map_cons, List.map_nil, List.reduceReplicate, List.nil_append, List.cons_append, List.append_nil, List.length_cons, List.length_nil, Nat.reduceAdd, Nat.reduceSub, Nat.reduceMul, Nat.reduceLT, Nat.reduceLeDiff, Nat.reduceBEq, Nat.reduceEqDiff, decide_true, decide_false, decide_eq_true_eq, decide_eq_false_iff_not, Bool.and_true, Bool.true_and, Bool.and_false, Bool.false_and, Bool.or_true, Bool.true_or, Bool.or_false, Bool.false_or, Bool.not_true, Bool.not_false, sxc, List.getElem?_cons_zero, List.getElem?_cons_succ, List.drop_zero, List.drop_succ_cons, List.take_zero, List.take_succ_cons, List.zip_cons_cons, List.zip_nil_right, List.toList_toArray, Nat.zero_add, Option.map_some, Option.map_none, Option.isSome_some, true_and, and_true, forall_const, ne_eq, not_false_eq_true, true_implies, implies_true, detG_eq, ht, hv]
      exact ⟨_, by rw [he], by rw [forcesR, if_neg (by omega)]; exact Got.nil _⟩
  · have he : forcesE us v = 90 := by simp [forcesE, ht]
    simp (config := { maxSteps := 4000000 }) only [↓sx0, ↓sx1, ↓sx2, ↓sx3, ↓sx4, ↓sx5, ↓sx6, sx0, sx1, sx2, sx3, sx4, sx5, sx6, tf22, ev3_hold, sxo, List.all_cons, List.all_nil, Bool.not_eq_true', Bool.not_eq_false', and_self, Bool.false_eq_true, Bool.true_eq_false, false_implies, true_and, and_true, bne_self_eq_false, beq_self_eq_true, Int.reduceBEq, Int.reduceBNe, Int.reduceLT, Int.reduceLE, Int.reduceEq, Int.reduceToNat, Int.toNat_natCast, beq_iff_eq, bne_iff_ne, beq_eq_false_iff_ne, bne_eq_false_iff_eq, Decidable.not_not, ↓reduceIte, if_true, if_false, List.map_cons, List.map_nil, List.reduceReplicate, List.nil_append, List.cons_append, List.append_nil, List.length_cons, List.length_nil, Nat.reduceAdd, Nat.reduceSub, Nat.reduceMul, Nat.reduceLT, Nat.reduceLeDiff, Nat.reduceBEq, Nat.reduceEqDiff, decide_true, decide_false, decide_eq_true_eq, decide_eq_false_iff_not, Bool.and_true, Bool.true_and, Bool.and_false, Bool.false_and, Bool.or_true, Bool.true_or, Bool.or_false, Bool.false_or, Bool.not_true, Bool.not_false, sxc, List.getElem?_cons_zero, List.getElem?_cons_succ, List.drop_zero, List.drop_succ_cons, List.take_zero, List.take_succ_cons, List.zip_cons_cons, List.zip_nil_right, List.toList_toArray, Nat.zero_add, Option.map_some, Option.map_none, Option.isSome_some, true_and, and_true, forall_const, ne_eq, not_false_eq_true, true_implies, implies_true, detG_eq, ht]
    exact ⟨_, by rw [he], by rw [forcesR, if_neg (by omega)]; exact Got.nil _⟩

end Go.Proofs.Ytpfbpelkodlljaa
