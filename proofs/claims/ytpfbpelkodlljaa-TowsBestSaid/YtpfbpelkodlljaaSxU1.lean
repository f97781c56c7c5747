/- A part of a proof: the symbolic walk and what it shows of single functions. -/
import Derived.Test.YtpfbpelkodlljaaSxT1
set_option linter.all false
namespace Go.Proofs.Ytpfbpelkodlljaa
open Go.RowKit Go.SX
set_option maxRecDepth 4000
set_option maxHeartbeats 4000000
set_option linter.unusedSimpArgs false
set_option linter.unusedVariables false

abbrev wr (n : Int) : Int := IntKind.i64.wrap n
def det0 : Nat → List Value → Option Value := fun _ _ => none
theorem det0_ok (w0 : World) (X : Nat → Prop) : DetFn Try.prog ⟨w0, X⟩ det0 := fun _ _ _ h => by cases h

theorem det_of_fn {g : Nat} {args : List Value} {v : Value} {w : World} (h : SX.Fn Try.prog g args w (fun _ => False) fun u N => u = v ∧ N = []) : Calls Try.prog g args.toArray w fun e w' => e = .returned v ∧ Keep (fun _ => False) w w' :=
  Calls.mono h fun e w' ⟨u, N, he, hk, _, _, _, hu, _⟩ => ⟨by rw [he, hu], hk⟩

def inB (n l h : Int) : Bool := decide (l ≤ n ∧ n ≤ h)

def roomW (h m a s x y : Int) : Int := wr (wr (wr (h * wr (a - y)) + wr (m * y)) - wr (wr (s + x) * a))

theorem room_fn (w : World) (h m a s b c x y : Int) : SX.Fn Try.prog 38 [.agg #[I h, I m, I a, I s, I b, I c], I x, I y] w (fun _ => False) fun v N => v = I (roomW h m a s x y) ∧ N = [] := by
  refine walk [] [] (det0_ok _ _) Try.func38 rfl Try.ntmps38 res38 (by kernel_rfl) no_facts ?_
  simp (config := { maxSteps := 4000000 }) only [↓sx0, ↓sx1, ↓sx2, ↓sx3, ↓sx4, ↓sx5, ↓sx6, sx0, sx1, sx2, sx3, sx4, sx5, sx6, tf38, ev3_hold, sxo, List.all_cons, List.all_nil, Bool.not_eq_true', Bool.not_eq_false', and_self, Bool.false_eq_true, Bool.true_eq_false, false_implies, true_and, and_true, bne_self_eq_false, beq_self_eq_true, Int.reduceBEq, Int.reduceBNe, Int.reduceLT, Int.reduceLE, Int.reduceEq, Int.reduceToNat, Int.toNat_natCast, beq_iff_eq, bne_iff_ne, beq_eq_false_iff_ne, bne_eq_false_iff_eq, Decidable.not_not, ↓reduceIte, if_true, if_false, List.map_cons, List.map_nil, List.reduceReplicate, List.nil_append, List.cons_append, List.append_nil, List.length_cons, List.length_nil, Nat.reduceAdd, Nat.reduceSub, Nat.reduceMul, Nat.reduceLT, Nat.reduceLeDiff, Nat.reduceBEq, Nat.reduceEqDiff, decide_true, decide_false, decide_eq_true_eq, decide_eq_false_iff_not, Bool.and_true, Bool.true_and, Bool.and_false, Bool.false_and, Bool.or_true, Bool.true_or, Bool.or_false, Bool.false_or, Bool.not_true, Bool.not_false, sxc, List.getElem?_cons_zero, List.getElem?_cons_succ, List.drop_zero, List.drop_succ_cons, List.take_zero, List.take_succ_cons, List.zip_cons_cons, List.zip_nil_right, List.toList_toArray, Nat.zero_add, Option.map_some, Option.map_none, Option.isSome_some, true_and, and_true, forall_const, ne_eq, not_false_eq_true, true_implies, implies_true]
  rfl

theorem up_fn (w : World) (a b : Int) (hb : b ≠ 0) : SX.Fn Try.prog 36 [I a, I b] w (fun _ => False) fun v N => v = I (wr ((wr (wr (a + b) - 1)).tdiv b)) ∧ N = [] := by
  refine walk [] [] (det0_ok _ _) Try.func36 rfl Try.ntmps36 res36 (by kernel_rfl) no_facts ?_
  simp (config := { maxSteps := 4000000 }) only [↓sx0, ↓sx1, ↓sx2, ↓sx3, ↓sx4, ↓sx5, ↓sx6, sx0, sx1, sx2, sx3, sx4, sx5, sx6, tf36, ev3_hold, sxo, List.all_cons, List.all_nil, Bool.not_eq_true', Bool.not_eq_false', and_self, Bool.false_eq_true, Bool.true_eq_false, false_implies, true_and, and_true, bne_self_eq_false, beq_self_eq_true, Int.reduceBEq, Int.reduceBNe, Int.reduceLT, Int.reduceLE, Int.reduceEq, Int.reduceToNat, Int.toNat_natCast, beq_iff_eq, bne_iff_ne, beq_eq_false_iff_ne, bne_eq_false_iff_eq, Decidable.not_not, ↓reduceIte, if_true, if_false, List.map_cons, List.map_nil, List.reduceReplicate, List.nil_append, List.cons_append, List.append_nil, List.length_cons, List.length_nil, Nat.reduceAdd, Nat.reduceSub, Nat.reduceMul, Nat.reduceLT, Nat.reduceLeDiff, Nat.reduceBEq, Nat.reduceEqDiff, decide_true, decide_false, decide_eq_true_eq, decide_eq_false_iff_not, Bool.and_true, Bool.true_and, Bool.and_false, Bool.false_and, Bool.or_true, Bool.true_or, Bool.or_false, Bool.false_or, Bool.not_true, Bool.not_false, sxc, List.getElem?_cons_zero, List.getElem?_cons_succ, List.drop_zero, List.drop_succ_cons, List.take_zero, List.take_succ_cons, List.zip_cons_cons, List.zip_nil_right, List.toList_toArray, Nat.zero_add, Option.map_some, Option.map_none, Option.isSome_some, true_and, and_true, forall_const, ne_eq, not_false_eq_true, true_implies, implies_true]
  exact hb

theorem within_fn (w : World) (n l h : Int) : SX.Fn Try.prog 39 [I n, I l, I h] w (fun _ => False) fun v N => v = .bool (inB n l h) ∧ N = [] := by
  refine walk [] [] (det0_ok _ _) Try.func39 rfl Try.ntmps39 res39 (by kernel_rfl) no_facts ?_
  simp (config := { maxSteps := 4000000 }) only [↓sx0, ↓sx1, ↓sx2, ↓sx3, ↓sx4, ↓sx5, ↓sx6, sx0, sx1, sx2, sx3, sx4, sx5, sx6, tf39, ev3_hold, sxo, List.all_cons, List.all_nil, Bool.not_eq_true', Bool.not_eq_false', and_self, Bool.false_eq_true, Bool.true_eq_false, false_implies, true_and, and_true, bne_self_eq_false, beq_self_eq_true, Int.reduceBEq, Int.reduceBNe, Int.reduceLT, Int.reduceLE, Int.reduceEq, Int.reduceToNat, Int.toNat_natCast, beq_iff_eq, bne_iff_ne, beq_eq_false_iff_ne, bne_eq_false_iff_eq, Decidable.not_not, ↓reduceIte, if_true, if_false, List.map_cons, List.map_nil, List.reduceReplicate, List.nil_append, List.cons_append, List.append_nil, List.length_cons, List.length_nil, Nat.reduceAdd, Nat.reduceSub, Nat.reduceMul, Nat.reduceLT, Nat.reduceLeDiff, Nat.reduceBEq, Nat.reduceEqDiff, decide_true, decide_false, decide_eq_true_eq, decide_eq_false_iff_not, Bool.and_true, Bool.true_and, Bool.and_false, Bool.false_and, Bool.or_true, Bool.true_or, Bool.or_false, Bool.false_or, Bool.not_true, Bool.not_false, sxc, List.getElem?_cons_zero, List.getElem?_cons_succ, List.drop_zero, List.drop_succ_cons, List.take_zero, List.take_succ_cons, List.zip_cons_cons, List.zip_nil_right, List.toList_toArray, Nat.zero_add, Option.map_some, Option.map_none, Option.isSome_some, true_and, and_true, forall_const, ne_eq, not_false_eq_true, true_implies, implies_true]
  unfold inB
  exact ⟨fun h1 => by simp [h1], fun h1 => by simp [h1]⟩

theorem from_fn (w : World) (n l h : Int) : SX.Fn Try.prog 40 [I n, I l, I h] w (fun _ => False) fun v N => v = .bool (inB n l h) ∧ N = [] := by
  refine walk [] [] (det0_ok _ _) Try.func40 rfl Try.ntmps40 res40 (by kernel_rfl) no_facts ?_
  simp (config := { maxSteps := 4000000 }) only [↓sx0, ↓sx1, ↓sx2, ↓sx3, ↓sx4, ↓sx5, ↓sx6, sx0, sx1, sx2, sx3, sx4, sx5, sx6, tf40, ev3_hold, sxo, List.all_cons, List.all_nil, Bool.not_eq_true', Bool.not_eq_false', and_self, Bool.false_eq_true, Bool.true_eq_false, false_implies, true_and, and_true, bne_self_eq_false, beq_self_eq_true, Int.reduceBEq, Int.reduceBNe, Int.reduceLT, Int.reduceLE, Int.reduceEq, Int.reduceToNat, Int.toNat_natCast, beq_iff_eq, bne_iff_ne, beq_eq_false_iff_ne, bne_eq_false_iff_eq, Decidable.not_not, ↓reduceIte, if_true, if_false, List.map_cons, List.map_nil, List.reduceReplicate, List.nil_append, List.cons_append, List.append_nil, List.length_cons, List.length_nil, Nat.reduceAdd, Nat.reduceSub, Nat.reduceMul, Nat.reduceLT, Nat.reduceLeDiff, Nat.reduceBEq, Nat.reduceEqDiff, decide_true, decide_false, decide_eq_true_eq, decide_eq_false_iff_not, Bool.and_true, Bool.true_and, Bool.and_false, Bool.false_and, Bool.or_true, Bool.true_or, Bool.or_false, Bool.false_or, Bool.not_true, Bool.not_false, sxc, List.getElem?_cons_zero, List.getElem?_cons_succ, List.drop_zero, List.drop_succ_cons, List.take_zero, List.take_succ_cons, List.zip_cons_cons, List.zip_nil_right, List.toList_toArray, Nat.zero_add, Option.map_some, Option.map_none, Option.isSome_some, true_and, and_true, forall_const, ne_eq, not_false_eq_true, true_implies, implies_true]
  unfold inB
  exact ⟨fun h1 => by simp [h1], fun h1 => by simp [h1]⟩

def upV (a b : Int) : Int := wr ((wr (wr (a + b) - 1)).tdiv b)

def detA : Nat → List Value → Option Value
  | 36, [.int .i64 a, .int .i64 b] => if b = 0 then none else some (I (upV a b))
  | 38, [.agg ⟨[.int .i64 h, .int .i64 m, .int .i64 a, .int .i64 s, .int .i64 _, .int .i64 _]⟩, .int .i64 x, .int .i64 y] => some (I (roomW h m a s x y))
  | 39, [.int .i64 n, .int .i64 l, .int .i64 h] => some (.bool (inB n l h))
  | 40, [.int .i64 n, .int .i64 l, .int .i64 h] => some (.bool (inB n l h))
  | _, _ => none

theorem detA_ok (w0 : World) (X : Nat → Prop) : DetFn Try.prog ⟨w0, X⟩ detA := by
  intro g args v h w hk
  unfold detA at h
  split at h
  · split at h
    · cases h
    · rename_i hb
      cases h
      exact det_of_fn (up_fn w _ _ hb)
  · cases h
    exact det_of_fn (room_fn w _ _ _ _ _ _ _ _)
  · cases h
    exact det_of_fn (within_fn w _ _ _)
  · cases h
    exact det_of_fn (from_fn w _ _ _)
  · cases h

theorem detA_36 (a b : Int) (hb : b ≠ 0) : detA 36 [I a, I b] = some (I (upV a b)) := by simp [detA, hb]
theorem detA_eq : (∀ h m a s b c x y : Int, detA 38 [.agg #[I h, I m, I a, I s, I b, I c], I x, I y] = some (I (roomW h m a s x y))) ∧
    (∀ n l h : Int, detA 39 [I n, I l, I h] = some (.bool (inB n l h))) ∧
    (∀ n l h : Int, detA 40 [I n, I l, I h] = some (.bool (inB n l h))) := ⟨fun _ _ _ _ _ _ _ _ => rfl, fun _ _ _ => rfl, fun _ _ _ => rfl⟩

theorem over_fn (w : World) (n : Int) : SX.Fn Try.prog 57 [I n] w (fun _ => False) fun v N => v = .bool (inB n 0 2000) ∧ N = [] := by
  refine walk [] [] (detA_ok _ _) Try.func57 rfl Try.ntmps57 res57 (by kernel_rfl) no_facts ?_
  simp (config := { maxSteps := 4000000 }) only [↓sx0, ↓sx1, ↓sx2, ↓sx3, ↓sx4, ↓sx5, ↓sx6, sx0, sx1, sx2, sx3, sx4, sx5, sx6, tf57, ev3_hold, sxo, List.all_cons, List.all_nil, Bool.not_eq_true', Bool.not_eq_false', and_self, Bool.false_eq_true, Bool.true_eq_false, false_implies, true_and, and_true, bne_self_eq_false, beq_self_eq_true, Int.reduceBEq, Int.reduceBNe, Int.reduceLT, Int.reduceLE, Int.reduceEq, Int.reduceToNat, Int.toNat_natCast, beq_iff_eq, bne_iff_ne, beq_eq_false_iff_ne, bne_eq_false_iff_eq, Decidable.not_not, ↓reduceIte, if_true, if_false, List.map_cons, List.map_nil, List.reduceReplicate, List.nil_append, List.cons_append, List.append_nil, List.length_cons, List.length_nil, Nat.reduceAdd, Nat.reduceSub, Nat.reduceMul, Nat.reduceLT, Nat.reduceLeDiff, Nat.reduceBEq, Nat.reduceEqDiff, decide_true, decide_false, decide_eq_true_eq, decide_eq_false_iff_not, Bool.and_true, Bool.true_and, Bool.and_false, Bool.false_and, Bool.or_true, Bool.true_or, Bool.or_false, Bool.false_or, Bool.not_true, Bool.not_false, sxc, List.getElem?_cons_zero, List.getElem?_cons_succ, List.drop_zero, List.drop_succ_cons, List.take_zero, List.take_succ_cons, List.zip_cons_cons, List.zip_nil_right, List.toList_toArray, Nat.zero_add, Option.map_some, Option.map_none, Option.isSome_some, true_and, and_true, forall_const, ne_eq, not_false_eq_true, true_implies, implies_true, detA_eq]

def isBuoyB (h m a s lo hi : Int) : Bool := inB h 0 2000 && inB m 0 2000 && inB s 0 2000 && inB a 1 500 && inB lo 1 hi && decide (hi ≤ 500)

theorem isBuoy_fn (w : World) (h m a s lo hi : Int) : SX.Fn Try.prog 19 [.agg #[I h, I m, I a, I s, I lo, I hi]] w (fun _ => False) fun v N => v = .bool (isBuoyB h m a s lo hi) ∧ N = [] := by
  refine walk [] [] (detA_ok _ _) Try.func19 rfl Try.ntmps19 res19 (by kernel_rfl) no_facts ?_
  simp (config := { maxSteps := 4000000 }) only [↓sx0, ↓sx1, ↓sx2, ↓sx3, ↓sx4, ↓sx5, ↓sx6, sx0, sx1, sx2, sx3, sx4, sx5, sx6, tf19, ev3_hold, sxo, List.all_cons, List.all_nil, Bool.not_eq_true', Bool.not_eq_false', and_self, Bool.false_eq_true, Bool.true_eq_false, false_implies, true_and, and_true, bne_self_eq_false, beq_self_eq_true, Int.reduceBEq, Int.reduceBNe, Int.reduceLT, Int.reduceLE, Int.reduceEq, Int.reduceToNat, Int.toNat_natCast, beq_iff_eq, bne_iff_ne, beq_eq_false_iff_ne, bne_eq_false_iff_eq, Decidable.not_not, ↓reduceIte, if_true, if_false, List.map_cons, List.map_nil, List.reduceReplicate, List.nil_append, List.cons_append, List.append_nil, List.length_cons, List.length_nil, Nat.reduceAdd, Nat.reduceSub, Nat.reduceMul, Nat.reduceLT, Nat.reduceLeDiff, Nat.reduceBEq, Nat.reduceEqDiff, decide_true, decide_false, decide_eq_true_eq, decide_eq_false_iff_not, Bool.and_true, Bool.true_and, Bool.and_false, Bool.false_and, Bool.or_true, Bool.true_or, Bool.or_false, Bool.false_or, Bool.not_true, Bool.not_false, sxc, List.getElem?_cons_zero, List.getElem?_cons_succ, List.drop_zero, List.drop_succ_cons, List.take_zero, List.take_succ_cons, List.zip_cons_cons, List.zip_nil_right, List.toList_toArray, Nat.zero_add, Option.map_some, Option.map_none, Option.isSome_some, true_and, and_true, forall_const, ne_eq, not_false_eq_true, true_implies, implies_true, detA_eq]
  unfold isBuoyB
  simp +contextual

def detB : Nat → List Value → Option Value
  | 57, [.int .i64 n] => some (.bool (inB n 0 2000))
  | 19, [.agg ⟨[.int .i64 h, .int .i64 m, .int .i64 a, .int .i64 s, .int .i64 lo, .int .i64 hi]⟩] => some (.bool (isBuoyB h m a s lo hi))
  | g, xs => detA g xs

theorem detB_ok (w0 : World) (X : Nat → Prop) : DetFn Try.prog ⟨w0, X⟩ detB := by
  intro g args v h w hk
  unfold detB at h
  split at h
  · cases h
    exact det_of_fn (over_fn w _)
  · cases h
    exact det_of_fn (isBuoy_fn w _ _ _ _ _ _)
  · exact detA_ok w0 X _ _ _ h w hk

theorem detB_36 (a b : Int) (hb : b ≠ 0) : detB 36 [I a, I b] = some (I (upV a b)) := by simp [detB, detA, hb]
theorem detB_eq : (∀ h m a s b c x y : Int, detB 38 [.agg #[I h, I m, I a, I s, I b, I c], I x, I y] = some (I (roomW h m a s x y))) ∧
    (∀ n l h : Int, detB 39 [I n, I l, I h] = some (.bool (inB n l h))) ∧
    (∀ n l h : Int, detB 40 [I n, I l, I h] = some (.bool (inB n l h))) ∧ (∀ n : Int, detB 57 [I n] = some (.bool (inB n 0 2000))) ∧
    (∀ h m a s lo hi : Int, detB 19 [.agg #[I h, I m, I a, I s, I lo, I hi]] = some (.bool (isBuoyB h m a s lo hi))) := ⟨fun _ _ _ _ _ _ _ _ => rfl, fun _ _ _ => rfl, fun _ _ _ => rfl, fun _ => rfl, fun _ _ _ _ _ _ => rfl⟩

def checkV (h m a s lo hi wt : Int) : Int := if isBuoyB h m a s lo hi then (if inB wt (-2000) 2000 then 0 else 1) else 92

theorem check_fn (w : World) (h m a s lo hi wt : Int) : SX.Fn Try.prog 37 [.agg #[I h, I m, I a, I s, I lo, I hi], I wt] w (fun _ => False) fun v N => v = I (checkV h m a s lo hi wt) ∧ N = [] := by
  refine walk [] [] (detB_ok _ _) Try.func37 rfl Try.ntmps37 res37 (by kernel_rfl) no_facts ?_
  simp (config := { maxSteps := 4000000 }) only [↓sx0, ↓sx1, ↓sx2, ↓sx3, ↓sx4, ↓sx5, ↓sx6, sx0, sx1, sx2, sx3, sx4, sx5, sx6, tf37, ev3_hold, sxo, List.all_cons, List.all_nil, Bool.not_eq_true', Bool.not_eq_false', and_self, Bool.false_eq_true, Bool.true_eq_false, false_implies, true_and, and_true, bne_self_eq_false, beq_self_eq_true, Int.reduceBEq, Int.reduceBNe, Int.reduceLT, Int.reduceLE, Int.reduceEq, Int.reduceToNat, Int.toNat_natCast, beq_iff_eq, bne_iff_ne, beq_eq_false_iff_ne, bne_eq_false_iff_eq, Decidable.not_not, ↓reduceIte, if_true, if_false, List.map_cons, List.map_nil, List.reduceReplicate, List.nil_append, List.cons_append, List.append_nil, List.length_cons, List.length_nil, Nat.reduceAdd, Nat.reduceSub, Nat.reduceMul, Nat.reduceLT, Nat.reduceLeDiff, Nat.reduceBEq, Nat.reduceEqDiff, decide_true, decide_false, decide_eq_true_eq, decide_eq_false_iff_not, Bool.and_true, Bool.true_and, Bool.and_false, Bool.false_and, Bool.or_true, Bool.true_or, Bool.or_false, Bool.false_or, Bool.not_true, Bool.not_false, sxc, List.getElem?_cons_zero, List.getElem?_cons_succ, List.drop_zero, List.drop_succ_cons, List.take_zero, List.take_succ_cons, List.zip_cons_cons, List.zip_nil_right, List.toList_toArray, Nat.zero_add, Option.map_some, Option.map_none, Option.isSome_some, true_and, and_true, forall_const, ne_eq, not_false_eq_true, true_implies, implies_true, detB_eq]
  unfold checkV
  simp +contextual

def rigV (h m a s lo hi wt : Int) : Value := if checkV h m a s lo hi wt = 0 then .tuple #[.agg #[I h, I m, I a, I s, I lo, I hi, I wt], I 0] else .tuple #[.agg #[I 0, I 0, I 0, I 0, I 0, I 0, I 0], I (checkV h m a s lo hi wt)]

theorem rig_fn (w : World) (h m a s lo hi wt : Int) : SX.Fn Try.prog 34 [.agg #[I h, I m, I a, I s, I lo, I hi], I wt] w (fun _ => False) fun v N => v = rigV h m a s lo hi wt ∧ N = [] := by
  refine walk [] [] (detB_ok _ _) Try.func34 rfl Try.ntmps34 res34 (by kernel_rfl) no_facts ?_
  simp (config := { maxSteps := 4000000 }) only [↓sx0, ↓sx1, ↓sx2, ↓sx3, ↓sx4, ↓sx5, ↓sx6, sx0, sx1, sx2, sx3, sx4, sx5, sx6, tf34, ev3_hold, sxo, List.all_cons, List.all_nil, Bool.not_eq_true', Bool.not_eq_false', and_self, Bool.false_eq_true, Bool.true_eq_false, false_implies, true_and, and_true, bne_self_eq_false, beq_self_eq_true, Int.reduceBEq, Int.reduceBNe, Int.reduceLT, Int.reduceLE, Int.reduceEq, Int.reduceToNat, Int.toNat_natCast, beq_iff_eq, bne_iff_ne, beq_eq_false_iff_ne, bne_eq_false_iff_eq, Decidable.not_not, ↓reduceIte, if_true, if_false, List.map_cons, List.map_nil, List.reduceReplicate, List.nil_append, List.cons_append, List.append_nil, List.length_cons, List.length_nil, Nat.reduceAdd, Nat.reduceSub, Nat.reduceMul, Nat.reduceLT, Nat.reduceLeDiff, Nat.reduceBEq, Nat.reduceEqDiff, decide_true, decide_false, decide_eq_true_eq, decide_eq_false_iff_not, Bool.and_true, Bool.true_and, Bool.and_false, Bool.false_and, Bool.or_true, Bool.true_or, Bool.or_false, Bool.false_or, Bool.not_true, Bool.not_false, sxc, List.getElem?_cons_zero, List.getElem?_cons_succ, List.drop_zero, List.drop_succ_cons, List.take_zero, List.take_succ_cons, List.zip_cons_cons, List.zip_nil_right, List.toList_toArray, Nat.zero_add, Option.map_some, Option.map_none, Option.isSome_some, true_and, and_true, forall_const, ne_eq, not_false_eq_true, true_implies, implies_true, detB_eq]
  have e1 : inB lo 1 hi = (!decide (lo < 1) && !decide (lo > hi)) := by
    unfold inB
    by_cases h1 : lo < 1 <;> by_cases h2 : lo > hi <;> simp [h1, h2] <;> omega
  have e2 : decide (hi ≤ 500) = !decide (hi > 500) := by
    by_cases h1 : hi > 500 <;> simp [h1] <;> omega
  unfold rigV checkV isBuoyB
  rw [e1, e2]
  simp +contextual

def detC : Nat → List Value → Option Value
  | 37, [.agg ⟨[.int .i64 h, .int .i64 m, .int .i64 a, .int .i64 s, .int .i64 lo, .int .i64 hi]⟩, .int .i64 wt] => some (I (checkV h m a s lo hi wt))
  | 34, [.agg ⟨[.int .i64 h, .int .i64 m, .int .i64 a, .int .i64 s, .int .i64 lo, .int .i64 hi]⟩, .int .i64 wt] => some (rigV h m a s lo hi wt)
  | g, xs => detB g xs

theorem detC_ok (w0 : World) (X : Nat → Prop) : DetFn Try.prog ⟨w0, X⟩ detC := by
  intro g args v h w hk
  unfold detC at h
  split at h
  · cases h
    exact det_of_fn (check_fn w _ _ _ _ _ _ _)
  · cases h
    exact det_of_fn (rig_fn w _ _ _ _ _ _ _)
  · exact detB_ok w0 X _ _ _ h w hk

theorem detC_36 (a b : Int) (hb : b ≠ 0) : detC 36 [I a, I b] = some (I (upV a b)) := by simp [detC, detB, detA, hb]
theorem detC_eq : (∀ h m a s b c x y : Int, detC 38 [.agg #[I h, I m, I a, I s, I b, I c], I x, I y] = some (I (roomW h m a s x y))) ∧
    (∀ n l h : Int, detC 39 [I n, I l, I h] = some (.bool (inB n l h))) ∧
    (∀ n l h : Int, detC 40 [I n, I l, I h] = some (.bool (inB n l h))) ∧ (∀ n : Int, detC 57 [I n] = some (.bool (inB n 0 2000))) ∧
    (∀ h m a s lo hi : Int, detC 19 [.agg #[I h, I m, I a, I s, I lo, I hi]] = some (.bool (isBuoyB h m a s lo hi))) ∧
    (∀ h m a s lo hi wt : Int, detC 37 [.agg #[I h, I m, I a, I s, I lo, I hi], I wt] = some (I (checkV h m a s lo hi wt))) ∧
    (∀ h m a s lo hi wt : Int, detC 34 [.agg #[I h, I m, I a, I s, I lo, I hi], I wt] = some (rigV h m a s lo hi wt)) := ⟨fun _ _ _ _ _ _ _ _ => rfl, fun _ _ _ => rfl, fun _ _ _ => rfl, fun _ => rfl, fun _ _ _ _ _ _ => rfl, fun _ _ _ _ _ _ _ => rfl, fun _ _ _ _ _ _ _ => rfl⟩

end Go.Proofs.Ytpfbpelkodlljaa
