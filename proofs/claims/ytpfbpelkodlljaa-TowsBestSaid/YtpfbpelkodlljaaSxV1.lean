/- A part of a proof: the symbolic walk and what it shows of single functions. -/
import Derived.Test.YtpfbpelkodlljaaSxU4
set_option linter.all false
namespace Go.Proofs.Ytpfbpelkodlljaa
open Go.RowKit Go.SX
set_option maxRecDepth 4000
set_option maxHeartbeats 2000000
set_option linter.unusedSimpArgs false
set_option linter.unusedVariables false

structure Tw where
  dl : Int
  dh : Int
  len : Int
  mass : Int
  str : Int

def twc (u : Tw) : List Value := [I u.dl, I u.dh, I u.len, I u.mass, I u.str]
def twcs (us : List Tw) : List Value := us.flatMap twc

theorem twcs_len (us : List Tw) : (twcs us).length = us.length * 5 := by
  induction us with
  | nil => rfl
  | cons u us ih =>
    rw [twcs, List.flatMap_cons, List.length_append]
    rw [twcs] at ih
    rw [ih]
    simp only [twc, List.length_cons, List.length_nil]
    omega

theorem twcs_get {us : List Tw} {i : Nat} {u : Tw} (h : us[i]? = some u) (j : Nat) (hj : j < 5) : (twcs us)[i * 5 + j]? = (twc u)[j]? := by
  induction us generalizing i with
  | nil => simp at h
  | cons x us ih =>
    rw [twcs, List.flatMap_cons]
    cases i with
    | zero =>
      simp only [List.getElem?_cons_zero, Option.some.injEq] at h
      subst h
      rw [List.getElem?_append_left (by simp [twc]; omega)]
      simp
    | succ i =>
      simp only [List.getElem?_cons_succ] at h
      rw [List.getElem?_append_right (by simp [twc]; omega)]
      have e : (i + 1) * 5 + j - (twc x).length = i * 5 + j := by simp [twc]; omega
      rw [e]
      exact ih h

def wrongB (u : Tw) : Bool := decide (u.dl < 1) || decide (u.dl > u.dh) || decide (u.dh > 100) || !inB u.len 1 2000 || !inB u.mass 0 20 || !inB u.str 0 1000000

theorem wrong_fn (w : World) (a b c d e : Int) : SX.Fn Try.prog 48 [.agg #[I a, I b, I c, I d, I e]] w (fun _ => False) fun v N => v = .bool (wrongB ⟨a, b, c, d, e⟩) := by
  refine walk [] [] (detD_ok _ _) Try.func48 rfl Try.ntmps48 res48 (by kernel_rfl) no_facts ?_
  simp (config := { maxSteps := 4000000 }) only [↓sx0, ↓sx1, ↓sx2, ↓sx3, ↓sx4, ↓sx5, ↓sx6, sx0, sx1, sx2, sx3, sx4, sx5, sx6, tf48, ev3_hold, sxo, List.all_cons, List.all_nil, Bool.not_eq_true', Bool.not_eq_false', and_self, Bool.false_eq_true, Bool.true_eq_false, false_implies, true_and, and_true, bne_self_eq_false, beq_self_eq_true, Int.reduceBEq, Int.reduceBNe, Int.reduceLT, Int.reduceLE, Int.reduceEq, Int.reduceToNat, Int.toNat_natCast, beq_iff_eq, bne_iff_ne, beq_eq_false_iff_ne, bne_eq_false_iff_eq, Decidable.not_not, ↓reduceIte, if_true, if_false, List.map_cons, List.map_nil, List.reduceReplicate, List.nil_append, List.cons_append, List.append_nil, List.length_cons, List.length_nil, Nat.reduceAdd, Nat.reduceSub, Nat.reduceMul, Nat.reduceLT, Nat.reduceLeDiff, Nat.reduceBEq, Nat.reduceEqDiff, decide_true, decide_false, decide_eq_true_eq, decide_eq_false_iff_not, Bool.and_true, Bool.true_and, Bool.and_false, Bool.false_and, Bool.or_true, Bool.true_or, Bool.or_false, Bool.false_or, Bool.not_true, Bool.not_false, sxc, List.getElem?_cons_zero, List.getElem?_cons_succ, List.drop_zero, List.drop_succ_cons, List.take_zero, List.take_succ_cons, List.zip_cons_cons, List.zip_nil_right, List.toList_toArray, Nat.zero_add, Option.map_some, Option.map_none, Option.isSome_some, true_and, and_true, forall_const, ne_eq, not_false_eq_true, true_implies, implies_true, detD_eq]
  unfold wrongB
  simp +contextual
  intros
  omega

def detE : Nat → List Value → Option Value
  | 48, [.agg ⟨[.int .i64 a, .int .i64 b, .int .i64 c, .int .i64 d, .int .i64 e]⟩] => some (.bool (wrongB ⟨a, b, c, d, e⟩))
  | g, xs => detD g xs

theorem detE_ok (w0 : World) (X : Nat → Prop) : DetFn Try.prog ⟨w0, X⟩ detE := by
  intro g args v h w hk
  unfold detE at h
  split at h
  · cases h
    exact det_of_fn' (wrong_fn w _ _ _ _ _)
  · exact detD_ok w0 X _ _ _ h w hk

theorem detE_eq : (∀ n l h : Int, detE 39 [I n, I l, I h] = some (.bool (inB n l h))) ∧
    (∀ n l h : Int, detE 40 [I n, I l, I h] = some (.bool (inB n l h))) ∧
    (∀ u : Tw, detE 48 [.agg (twc u).toArray] = some (.bool (wrongB u))) ∧ (∀ xs, detE 49 xs = none) ∧ (∀ xs, detE 60 xs = none) := ⟨fun _ _ _ => rfl, fun _ _ _ => rfl, fun _ => rfl, fun _ => rfl, fun _ => rfl⟩

/-- The first unit that is wrong, by its number; -1: there is none. -/
def fwGo : List Tw → Nat → Int
  | [], _ => -1
  | u :: us, k => if wrongB u then k else fwGo us (k + 1)

theorem index_fn (w : World) (a : Option Addr) (n c : Nat) (us : List Tw) (hs : Sl w (.slice a n c) 5 (twcs us)) (hn : us.length = n) (hb : n ≤ 1000000) : SX.Fn Try.prog 60 [.slice a n c, .func (.func 48) #[] #[]] w (fun _ => False) fun v N => v = I (fwGo us 0) := by
  refine walk [] [] (detE_ok _ _) Try.func60 rfl Try.ntmps60 res60 (by kernel_rfl) no_facts ?_
  simp (config := { maxSteps := 4000000 }) only [↓sx0, ↓sx1, ↓sx2, ↓sx3, ↓sx4, ↓sx5, ↓sx6, sx0, sx1, sx2, sx3, sx4, sx5, sx6, tf60, ev3_hold, sxo, List.all_cons, List.all_nil, Bool.not_eq_true', Bool.not_eq_false', and_self, Bool.false_eq_true, Bool.true_eq_false, false_implies, true_and, and_true, bne_self_eq_false, beq_self_eq_true, Int.reduceBEq, Int.reduceBNe, Int.reduceLT, Int.reduceLE, Int.reduceEq, Int.reduceToNat, Int.toNat_natCast, beq_iff_eq, bne_iff_ne, beq_eq_false_iff_ne, bne_eq_false_iff_eq, Decidable.not_not, ↓reduceIte, if_true, if_false, List.map_cons, List.map_nil, List.reduceReplicate, List.nil_append, List.cons_append, List.append_nil, List.length_cons, List.length_nil, Nat.reduceAdd, Nat.reduceSub, Nat.reduceMul, Nat.reduceLT, Nat.reduceLeDiff, Nat.reduceBEq, Nat.reduceEqDiff, decide_true, decide_false, decide_eq_true_eq, decide_eq_false_iff_not, Bool.and_true, Bool.true_and, Bool.and_false, Bool.false_and, Bool.or_true, Bool.true_or, Bool.or_false, Bool.false_or, Bool.not_true, Bool.not_false, sxc, List.getElem?_cons_zero, List.getElem?_cons_succ, List.drop_zero, List.drop_succ_cons, List.take_zero, List.take_succ_cons, List.zip_cons_cons, List.zip_nil_right, List.toList_toArray, Nat.zero_add, Option.map_some, Option.map_none, Option.isSome_some, true_and, and_true, forall_const, ne_eq, not_false_eq_true, true_implies, implies_true, detE_eq, cT48]
  refine loop_const [(5, 5), (9, 18)] (fun k : Nat => [(8, I k)]) (fun k H1 => H1 = [] ∧ k ≤ n ∧ fwGo us 0 = fwGo (us.drop k) k) (fun k => n - k) 0 ?_ ⟨rfl, Nat.zero_le _, rfl⟩ ?_
  · simp (config := { maxSteps := 4000000 }) only [↓sx0, ↓sx1, ↓sx2, ↓sx3, ↓sx4, ↓sx5, ↓sx6, sx0, sx1, sx2, sx3, sx4, sx5, sx6, tf60, ev3_hold, sxo, List.all_cons, List.all_nil, Bool.not_eq_true', Bool.not_eq_false', and_self, Bool.false_eq_true, Bool.true_eq_false, false_implies, true_and, and_true, bne_self_eq_false, beq_self_eq_true, Int.reduceBEq, Int.reduceBNe, Int.reduceLT, Int.reduceLE, Int.reduceEq, Int.reduceToNat, Int.toNat_natCast, beq_iff_eq, bne_iff_ne, beq_eq_false_iff_ne, bne_eq_false_iff_eq, Decidable.not_not, ↓reduceIte, if_true, if_false, List.map_cons, List.map_nil, List.reduceReplicate, List.nil_append, List.cons_append, List.append_nil, List.length_cons, List.length_nil, Nat.reduceAdd, Nat.reduceSub, Nat.reduceMul, Nat.reduceLT, Nat.reduceLeDiff, Nat.reduceBEq, Nat.reduceEqDiff, decide_true, decide_false, decide_eq_true_eq, decide_eq_false_iff_not, Bool.and_true, Bool.true_and, Bool.and_false, Bool.false_and, Bool.or_true, Bool.true_or, Bool.or_false, Bool.false_or, Bool.not_true, Bool.not_false, sxc, List.getElem?_cons_zero, List.getElem?_cons_succ, List.drop_zero, List.drop_succ_cons, List.take_zero, List.take_succ_cons, List.zip_cons_cons, List.zip_nil_right, List.toList_toArray, Nat.zero_add, Option.map_some, Option.map_none, Option.isSome_some, true_and, and_true, forall_const, ne_eq, not_false_eq_true, true_implies, implies_true]
    rfl
  · rintro k H1 g ⟨rfl, hk, ht⟩
    have e2 : wr (k + 1) = k + 1 := wrap_id (by omega)
    simp (config := { maxSteps := 4000000 }) only [↓sx0, ↓sx1, ↓sx2, ↓sx3, ↓sx4, ↓sx5, ↓sx6, sx0, sx1, sx2, sx3, sx4, sx5, sx6, tf60, ev3_hold, sxo, List.all_cons, List.all_nil, Bool.not_eq_true', Bool.not_eq_false', and_self, Bool.false_eq_true, Bool.true_eq_false, false_implies, true_and, and_true, bne_self_eq_false, beq_self_eq_true, Int.reduceBEq, Int.reduceBNe, Int.reduceLT, Int.reduceLE, Int.reduceEq, Int.reduceToNat, Int.toNat_natCast, beq_iff_eq, bne_iff_ne, beq_eq_false_iff_ne, bne_eq_false_iff_eq, Decidable.not_not, ↓reduceIte, if_true, if_false, List.map_cons, List.map_nil, List.reduceReplicate, List.nil_append, List.cons_append, List.append_nil, List.length_cons, List.length_nil, Nat.reduceAdd, Nat.reduceSub, Nat.reduceMul, Nat.reduceLT, Nat.reduceLeDiff, Nat.reduceBEq, Nat.reduceEqDiff, decide_true, decide_false, decide_eq_true_eq, decide_eq_false_iff_not, Bool.and_true, Bool.true_and, Bool.and_false, Bool.false_and, Bool.or_true, Bool.true_or, Bool.or_false, Bool.false_or, Bool.not_true, Bool.not_false, sxc, List.getElem?_cons_zero, List.getElem?_cons_succ, List.drop_zero, List.drop_succ_cons, List.take_zero, List.take_succ_cons, List.zip_cons_cons, List.zip_nil_right, List.toList_toArray, Nat.zero_add, Option.map_some, Option.map_none, Option.isSome_some, true_and, and_true, forall_const, ne_eq, not_false_eq_true, true_implies, implies_true, detE_eq, e2, cT48]
    refine ⟨fun h1 => ?_, fun h1 => ?_⟩
    · obtain ⟨ad, rfl⟩ := hs.addr (by rw [twcs_len]; omega)
      have hkl : k < us.length := by omega
      have hu : us[k]? = some us[k] := List.getElem?_eq_getElem hkl
      refine ⟨by omega, h1, ad, rfl, ldn (xs := twcs us) (vs := twc us[k]) (hs.rds id) rfl (fun j v hj => ?_) ?_⟩
      · have hj5 : j < 5 := (List.getElem?_eq_some_iff.1 hj).1
        rw [twcs_get hu j hj5]
        exact hj
      · rw [List.drop_eq_getElem_cons hkl] at ht
        simp only [fwGo] at ht
        simp (config := { maxSteps := 4000000 }) only [↓sx0, ↓sx1, ↓sx2, ↓sx3, ↓sx4, ↓sx5, ↓sx6, sx0, sx1, sx2, sx3, sx4, sx5, sx6, tf60, ev3_hold, sxo, List.all_cons, List.all_nil, Bool.not_eq_true', Bool.not_eq_false', and_self, Bool.false_eq_true, Bool.true_eq_false, false_implies, true_and, and_true, bne_self_eq_false, beq_self_eq_true, Int.reduceBEq, Int.reduceBNe, Int.reduceLT, Int.reduceLE, Int.reduceEq, Int.reduceToNat, Int.toNat_natCast, beq_iff_eq, bne_iff_ne, beq_eq_false_iff_ne, bne_eq_false_iff_eq, Decidable.not_not, ↓reduceIte, if_true, if_false, List.map_cons, List.map_nil, List.reduceReplicate, List.nil_append, List.cons_append, List.append_nil, List.length_cons, List.length_nil, Nat.reduceAdd, Nat.reduceSub, Nat.reduceMul, Nat.reduceLT, Nat.reduceLeDiff, Nat.reduceBEq, Nat.reduceEqDiff, decide_true, decide_false, decide_eq_true_eq, decide_eq_false_iff_not, Bool.and_true, Bool.true_and, Bool.and_false, Bool.false_and, Bool.or_true, Bool.true_or, Bool.or_false, Bool.false_or, Bool.not_true, Bool.not_false, sxc, List.getElem?_cons_zero, List.getElem?_cons_succ, List.drop_zero, List.drop_succ_cons, List.take_zero, List.take_succ_cons, List.zip_cons_cons, List.zip_nil_right, List.toList_toArray, Nat.zero_add, Option.map_some, Option.map_none, Option.isSome_some, true_and, and_true, forall_const, ne_eq, not_false_eq_true, true_implies, implies_true, detE_eq, e2, cT48]
        refine ⟨fun hw => ?_, fun hw => ⟨k + 1, _, rfl, HImp.refl _ _, ⟨rfl, by omega, ?_⟩, by omega⟩⟩
        · rw [ht, if_pos hw]
        · rw [ht, if_neg (by simp [hw])]
    · rw [ht, List.drop_of_length_le (by omega)]
      rfl

theorem contains_fn (w : World) (a : Option Addr) (n c : Nat) (us : List Tw) (hs : Sl w (.slice a n c) 5 (twcs us)) (hn : us.length = n) (hb : n ≤ 1000000) : SX.Fn Try.prog 49 [.slice a n c, .func (.func 48) #[] #[]] w (fun _ => False) fun v N => v = .bool (decide (fwGo us 0 ≥ 0)) := by
  refine walk [] [] (detE_ok _ _) Try.func49 rfl Try.ntmps49 res49 (by kernel_rfl) no_facts ?_
  simp (config := { maxSteps := 4000000 }) only [↓sx0, ↓sx1, ↓sx2, ↓sx3, ↓sx4, ↓sx5, ↓sx6, sx0, sx1, sx2, sx3, sx4, sx5, sx6, tf49, ev3_hold, sxo, List.all_cons, List.all_nil, Bool.not_eq_true', Bool.not_eq_false', and_self, Bool.false_eq_true, Bool.true_eq_false, false_implies, true_and, and_true, bne_self_eq_false, beq_self_eq_true, Int.reduceBEq, Int.reduceBNe, Int.reduceLT, Int.reduceLE, Int.reduceEq, Int.reduceToNat, Int.toNat_natCast, beq_iff_eq, bne_iff_ne, beq_eq_false_iff_ne, bne_eq_false_iff_eq, Decidable.not_not, ↓reduceIte, if_true, if_false, List.map_cons, List.map_nil, List.reduceReplicate, List.nil_append, List.cons_append, List.append_nil, List.length_cons, List.length_nil, Nat.reduceAdd, Nat.reduceSub, Nat.reduceMul, Nat.reduceLT, Nat.reduceLeDiff, Nat.reduceBEq, Nat.reduceEqDiff, decide_true, decide_false, decide_eq_true_eq, decide_eq_false_iff_not, Bool.and_true, Bool.true_and, Bool.and_false, Bool.false_and, Bool.or_true, Bool.true_or, Bool.or_false, Bool.false_or, Bool.not_true, Bool.not_false, sxc, List.getElem?_cons_zero, List.getElem?_cons_succ, List.drop_zero, List.drop_succ_cons, List.take_zero, List.take_succ_cons, List.zip_cons_cons, List.zip_nil_right, List.toList_toArray, Nat.zero_add, Option.map_some, Option.map_none, Option.isSome_some, true_and, and_true, forall_const, ne_eq, not_false_eq_true, true_implies, implies_true, detE_eq]
  refine CallOb.pure (fun w' hp => index_fn w' a n c us (hs.hp (fun _ _ => id) hp) hn hb) ?_
  rintro v N rfl
  simp (config := { maxSteps := 4000000 }) only [↓sx0, ↓sx1, ↓sx2, ↓sx3, ↓sx4, ↓sx5, ↓sx6, sx0, sx1, sx2, sx3, sx4, sx5, sx6, tf49, ev3_hold, sxo, List.all_cons, List.all_nil, Bool.not_eq_true', Bool.not_eq_false', and_self, Bool.false_eq_true, Bool.true_eq_false, false_implies, true_and, and_true, bne_self_eq_false, beq_self_eq_true, Int.reduceBEq, Int.reduceBNe, Int.reduceLT, Int.reduceLE, Int.reduceEq, Int.reduceToNat, Int.toNat_natCast, beq_iff_eq, bne_iff_ne, beq_eq_false_iff_ne, bne_eq_false_iff_eq, Decidable.not_not, ↓reduceIte, if_true, if_false, List.map_cons, List.map_nil, List.reduceReplicate, List.nil_append, List.cons_append, List.append_nil, List.length_cons, List.length_nil, Nat.reduceAdd, Nat.reduceSub, Nat.reduceMul, Nat.reduceLT, Nat.reduceLeDiff, Nat.reduceBEq, Nat.reduceEqDiff, decide_true, decide_false, decide_eq_true_eq, decide_eq_false_iff_not, Bool.and_true, Bool.true_and, Bool.and_false, Bool.false_and, Bool.or_true, Bool.true_or, Bool.or_false, Bool.false_or, Bool.not_true, Bool.not_false, sxc, List.getElem?_cons_zero, List.getElem?_cons_succ, List.drop_zero, List.drop_succ_cons, List.take_zero, List.take_succ_cons, List.zip_cons_cons, List.zip_nil_right, List.toList_toArray, Nat.zero_add, Option.map_some, Option.map_none, Option.isSome_some, true_and, and_true, forall_const, ne_eq, not_false_eq_true, true_implies, implies_true]

theorem fwGo_any (us : List Tw) (k : Nat) : fwGo us k ≥ 0 ↔ us.any wrongB = true := by
  induction us generalizing k with
  | nil => simp [fwGo]
  | cons u us ih =>
    have e : fwGo (u :: us) k = if wrongB u = true then (k : Int) else fwGo us (k + 1) := rfl
    rw [e]
    by_cases hw : wrongB u = true
    · simp only [hw, if_true, List.any_cons, Bool.true_or, iff_true]
      omega
    · have hf : wrongB u = false := by simpa using hw
      simp only [hf, List.any_cons, Bool.false_or, Bool.false_eq_true, if_false]
      exact ih (k + 1)

/-- A train that is valid. -/
def trainB (us : List Tw) : Bool := decide (1 ≤ us.length ∧ us.length ≤ 8) && !us.any wrongB

theorem check2_fn (w : World) (a : Option Addr) (n c : Nat) (us : List Tw) (hs : Sl w (.slice a n c) 5 (twcs us)) (hn : us.length = n) : SX.Fn Try.prog 24 [.agg #[.slice a n c]] w (fun _ => False) fun v N => v = I (if trainB us then 0 else 90) := by
  refine walk [] [] (detE_ok _ _) Try.func24 rfl Try.ntmps24 res24 (by kernel_rfl) no_facts ?_
  have hin : inB n 1 8 = decide (1 ≤ us.length ∧ us.length ≤ 8) := by
    unfold inB
    rw [decide_eq_decide]
    omega
  simp (config := { maxSteps := 4000000 }) only [↓sx0, ↓sx1, ↓sx2, ↓sx3, ↓sx4, ↓sx5, ↓sx6, sx0, sx1, sx2, sx3, sx4, sx5, sx6, tf24, ev3_hold, sxo, List.all_cons, List.all_nil, Bool.not_eq_true', Bool.not_eq_false', and_self, Bool.false_eq_true, Bool.true_eq_false, false_implies, true_and, and_true, bne_self_eq_false, beq_self_eq_true, Int.reduceBEq, Int.reduceBNe, Int.reduceLT, Int.reduceLE, Int.reduceEq, Int.reduceToNat, Int.toNat_natCast, beq_iff_eq, bne_iff_ne, beq_eq_false_iff_ne, bne_eq_false_iff_eq, Decidable.not_not, ↓reduceIte, if_true, if_false, List.map_cons, List.map_nil, List.reduceReplicate, List.nil_append, List.cons_append, List.append_nil, List.length_cons, List.length_nil, Nat.reduceAdd, Nat.reduceSub, Nat.reduceMul, Nat.reduceLT, Nat.reduceLeDiff, Nat.reduceBEq, Nat.reduceEqDiff, decide_true, decide_false, decide_eq_true_eq, decide_eq_false_iff_not, Bool.and_true, Bool.true_and, Bool.and_false, Bool.false_and, Bool.or_true, Bool.true_or, Bool.or_false, Bool.false_or, Bool.not_true, Bool.not_false, sxc, List.getElem?_cons_zero, List.getElem?_cons_succ, List.drop_zero, List.drop_succ_cons, List.take_zero, List.take_succ_cons, List.zip_cons_cons, List.zip_nil_right, List.toList_toArray, Nat.zero_add, Option.map_some, Option.map_none, Option.isSome_some, true_and, and_true, forall_const, ne_eq, not_false_eq_true, true_implies, implies_true, detE_eq, hin]
  refine ⟨fun h1 => ?_, fun h1 => ?_⟩
  · refine CallOb.pure (fun w' hp => contains_fn w' a n c us (hs.hp (fun _ _ => id) hp) hn (by omega)) ?_
    rintro v N rfl
    simp (config := { maxSteps := 4000000 }) only [↓sx0, ↓sx1, ↓sx2, ↓sx3, ↓sx4, ↓sx5, ↓sx6, sx0, sx1, sx2, sx3, sx4, sx5, sx6, tf24, ev3_hold, sxo, List.all_cons, List.all_nil, Bool.not_eq_true', Bool.not_eq_false', and_self, Bool.false_eq_true, Bool.true_eq_false, false_implies, true_and, and_true, bne_self_eq_false, beq_self_eq_true, Int.reduceBEq, Int.reduceBNe, Int.reduceLT, Int.reduceLE, Int.reduceEq, Int.reduceToNat, Int.toNat_natCast, beq_iff_eq, bne_iff_ne, beq_eq_false_iff_ne, bne_eq_false_iff_eq, Decidable.not_not, ↓reduceIte, if_true, if_false, List.map_cons, List.map_nil, List.reduceReplicate, List.nil_append, List.cons_append, List.append_nil, List.length_cons, List.length_nil, Nat.reduceAdd, Nat.reduceSub, Nat.reduceMul, Nat.reduceLT, Nat.reduceLeDiff, Nat.reduceBEq, Nat.reduceEqDiff, decide_true, decide_false, decide_eq_true_eq, decide_eq_false_iff_not, Bool.and_true, Bool.true_and, Bool.and_false, Bool.false_and, Bool.or_true, Bool.true_or, Bool.or_false, Bool.false_or, Bool.not_true, Bool.not_false, sxc, List.getElem?_cons_zero, List.getElem?_cons_succ, List.drop_zero, List.drop_succ_cons, List.take_zero, List.take_succ_cons, List.zip_cons_cons, List.zip_nil_right, List.toList_toArray, Nat.zero_add, Option.map_some, Option.map_none, Option.isSome_some, true_and, and_true, forall_const, ne_eq, not_false_eq_true, true_implies, implies_true]
    refine ⟨fun h2 => ?_, fun h2 => ?_⟩
    · have h3 := (fwGo_any us 0).1 h2
      simp only [trainB, h3, Bool.not_true, Bool.and_false, Bool.false_eq_true, if_false]
    · have h3 : us.any wrongB = false := Bool.eq_false_iff.2 fun h => h2 ((fwGo_any us 0).2 h)
      simp only [trainB, h3, h1, Bool.not_false, Bool.and_true, decide_true, and_self, if_true]
  · simp [trainB, h1]

theorem check1_fn (w : World) (a : Option Addr) (n c : Nat) (us : List Tw) (hs : Sl w (.slice a n c) 5 (twcs us)) (hn : us.length = n) : SX.Fn Try.prog 15 [.agg #[.slice a n c]] w (fun _ => False) fun v N => v = I (if trainB us then 0 else 90) := by
  refine walk [] [] (detE_ok _ _) Try.func15 rfl Try.ntmps15 res15 (by kernel_rfl) no_facts ?_
  have hin : inB n 1 8 = decide (1 ≤ us.length ∧ us.length ≤ 8) := by
    unfold inB
    rw [decide_eq_decide]
    omega
  simp (config := { maxSteps := 4000000 }) only [↓sx0, ↓sx1, ↓sx2, ↓sx3, ↓sx4, ↓sx5, ↓sx6, sx0, sx1, sx2, sx3, sx4, sx5, sx6, tf15, ev3_hold, sxo, List.all_cons, List.all_nil, Bool.not_eq_true', Bool.not_eq_false', and_self, Bool.false_eq_true, Bool.true_eq_false, false_implies, true_and, and_true, bne_self_eq_false, beq_self_eq_true, Int.reduceBEq, Int.reduceBNe, Int.reduceLT, Int.reduceLE, Int.reduceEq, Int.reduceToNat, Int.toNat_natCast, beq_iff_eq, bne_iff_ne, beq_eq_false_iff_ne, bne_eq_false_iff_eq, Decidable.not_not, ↓reduceIte, if_true, if_false, List.map_cons, List.map_nil, List.reduceReplicate, List.nil_append, List.cons_append, List.append_nil, List.length_cons, List.length_nil, Nat.reduceAdd, Nat.reduceSub, Nat.reduceMul, Nat.reduceLT, Nat.reduceLeDiff, Nat.reduceBEq, Nat.reduceEqDiff, decide_true, decide_false, decide_eq_true_eq, decide_eq_false_iff_not, Bool.and_true, Bool.true_and, Bool.and_false, Bool.false_and, Bool.or_true, Bool.true_or, Bool.or_false, Bool.false_or, Bool.not_true, Bool.not_false, sxc, List.getElem?_cons_zero, List.getElem?_cons_succ, List.drop_zero, List.drop_succ_cons, List.take_zero, List.take_succ_cons, List.zip_cons_cons, List.zip_nil_right, List.toList_toArray, Nat.zero_add, Option.map_some, Option.map_none, Option.isSome_some, true_and, and_true, forall_const, ne_eq, not_false_eq_true, true_implies, implies_true, detE_eq, hin]
  refine ⟨fun h1 => by simp [trainB, h1], fun h1 => ?_⟩
  refine loop_const [(4, 4), (10, 56)] (fun k : Nat => [(3, I k)]) (fun k H1 => H1 = [] ∧ k ≤ n ∧ us.any wrongB = (us.drop k).any wrongB) (fun k => n - k) 0 ?_ ⟨rfl, Nat.zero_le _, rfl⟩ ?_
  · simp (config := { maxSteps := 4000000 }) only [↓sx0, ↓sx1, ↓sx2, ↓sx3, ↓sx4, ↓sx5, ↓sx6, sx0, sx1, sx2, sx3, sx4, sx5, sx6, tf15, ev3_hold, sxo, List.all_cons, List.all_nil, Bool.not_eq_true', Bool.not_eq_false', and_self, Bool.false_eq_true, Bool.true_eq_false, false_implies, true_and, and_true, bne_self_eq_false, beq_self_eq_true, Int.reduceBEq, Int.reduceBNe, Int.reduceLT, Int.reduceLE, Int.reduceEq, Int.reduceToNat, Int.toNat_natCast, beq_iff_eq, bne_iff_ne, beq_eq_false_iff_ne, bne_eq_false_iff_eq, Decidable.not_not, ↓reduceIte, if_true, if_false, List.map_cons, List.map_nil, List.reduceReplicate, List.nil_append, List.cons_append, List.append_nil, List.length_cons, List.length_nil, Nat.reduceAdd, Nat.reduceSub, Nat.reduceMul, Nat.reduceLT, Nat.reduceLeDiff, Nat.reduceBEq, Nat.reduceEqDiff, decide_true, decide_false, decide_eq_true_eq, decide_eq_false_iff_not, Bool.and_true, Bool.true_and, Bool.and_false, Bool.false_and, Bool.or_true, Bool.true_or, Bool.or_false, Bool.false_or, Bool.not_true, Bool.not_false, sxc, List.getElem?_cons_zero, List.getElem?_cons_succ, List.drop_zero, List.drop_succ_cons, List.take_zero, List.take_succ_cons, List.zip_cons_cons, List.zip_nil_right, List.toList_toArray, Nat.zero_add, Option.map_some, Option.map_none, Option.isSome_some, true_and, and_true, forall_const, ne_eq, not_false_eq_true, true_implies, implies_true]
    rfl
  · rintro k H1 g ⟨rfl, hk, ht⟩
    have e2 : wr (k + 1) = k + 1 := wrap_id (by omega)
    have hlt : 0 < (twcs us).length := by rw [twcs_len]; omega
    obtain ⟨ad, hadr⟩ := hs.addr hlt
    simp (config := { maxSteps := 4000000 }) only [↓sx0, ↓sx1, ↓sx2, ↓sx3, ↓sx4, ↓sx5, ↓sx6, sx0, sx1, sx2, sx3, sx4, sx5, sx6, tf15, ev3_hold, sxo, List.all_cons, List.all_nil, Bool.not_eq_true', Bool.not_eq_false', and_self, Bool.false_eq_true, Bool.true_eq_false, false_implies, true_and, and_true, bne_self_eq_false, beq_self_eq_true, Int.reduceBEq, Int.reduceBNe, Int.reduceLT, Int.reduceLE, Int.reduceEq, Int.reduceToNat, Int.toNat_natCast, beq_iff_eq, bne_iff_ne, beq_eq_false_iff_ne, bne_eq_false_iff_eq, Decidable.not_not, ↓reduceIte, if_true, if_false, List.map_cons, List.map_nil, List.reduceReplicate, List.nil_append, List.cons_append, List.append_nil, List.length_cons, List.length_nil, Nat.reduceAdd, Nat.reduceSub, Nat.reduceMul, Nat.reduceLT, Nat.reduceLeDiff, Nat.reduceBEq, Nat.reduceEqDiff, decide_true, decide_false, decide_eq_true_eq, decide_eq_false_iff_not, Bool.and_true, Bool.true_and, Bool.and_false, Bool.false_and, Bool.or_true, Bool.true_or, Bool.or_false, Bool.false_or, Bool.not_true, Bool.not_false, sxc, List.getElem?_cons_zero, List.getElem?_cons_succ, List.drop_zero, List.drop_succ_cons, List.take_zero, List.take_succ_cons, List.zip_cons_cons, List.zip_nil_right, List.toList_toArray, Nat.zero_add, Option.map_some, Option.map_none, Option.isSome_some, true_and, and_true, forall_const, ne_eq, not_false_eq_true, true_implies, implies_true, detE_eq, e2]
    refine ⟨fun h2 => ?_, fun h2 => ?_⟩
    · have hkl : k < us.length := by omega
      have hu : us[k]? = some us[k] := List.getElem?_eq_getElem hkl
      have hs' := hs
      rw [hadr] at hs'
      have hrds := hs'.rds (X := fun _ => False) (H := []) id
      refine ⟨by omega, h2, ad, hadr, ldn (xs := twcs us) (vs := twc us[k]) hrds rfl (fun j v hj => ?_) ?_⟩
      · have hj5 : j < 5 := (List.getElem?_eq_some_iff.1 hj).1
        rw [twcs_get hu j hj5]
        exact hj
      · rw [List.drop_eq_getElem_cons hkl, List.any_cons] at ht
        generalize us[k] = u at ht
        have ew : wrongB u = (!inB u.dl 1 u.dh || decide (u.dh > 100) || !inB u.len 1 2000 || !inB u.mass 0 20 || !inB u.str 0 1000000) := by
          have : inB u.dl 1 u.dh = (!decide (u.dl < 1) && !decide (u.dl > u.dh)) := by
            unfold inB
            by_cases h1 : u.dl < 1 <;> by_cases h2 : u.dl > u.dh <;> simp [h1, h2] <;> omega
          unfold wrongB
          rw [this]
          simp only [Bool.not_and, Bool.not_not]
        simp (config := { maxSteps := 4000000 }) only [↓sx0, ↓sx1, ↓sx2, ↓sx3, ↓sx4, ↓sx5, ↓sx6, sx0, sx1, sx2, sx3, sx4, sx5, sx6, tf15, ev3_hold, sxo, List.all_cons, List.all_nil, Bool.not_eq_true', Bool.not_eq_false', and_self, Bool.false_eq_true, Bool.true_eq_false, false_implies, true_and, and_true, bne_self_eq_false, beq_self_eq_true, Int.reduceBEq, Int.reduceBNe, Int.reduceLT, Int.reduceLE, Int.reduceEq, Int.reduceToNat, Int.toNat_natCast, beq_iff_eq, bne_iff_ne, beq_eq_false_iff_ne, bne_eq_false_iff_eq, Decidable.not_not, ↓reduceIte, if_true, if_false, List.map_cons, List.map_nil, List.reduceReplicate, List.nil_append, List.cons_append, List.append_nil, List.length_cons, List.length_nil, Nat.reduceAdd, Nat.reduceSub, Nat.reduceMul, Nat.reduceLT, Nat.reduceLeDiff, Nat.reduceBEq, Nat.reduceEqDiff, decide_true, decide_false, decide_eq_true_eq, decide_eq_false_iff_not, Bool.and_true, Bool.true_and, Bool.and_false, Bool.false_and, Bool.or_true, Bool.true_or, Bool.or_false, Bool.false_or, Bool.not_true, Bool.not_false, sxc, List.getElem?_cons_zero, List.getElem?_cons_succ, List.drop_zero, List.drop_succ_cons, List.take_zero, List.take_succ_cons, List.zip_cons_cons, List.zip_nil_right, List.toList_toArray, Nat.zero_add, Option.map_some, Option.map_none, Option.isSome_some, true_and, and_true, forall_const, ne_eq, not_false_eq_true, true_implies, implies_true, detE_eq, e2, twc]
        have bad : wrongB u = true → Value.int IntKind.i64 90 = I (if trainB us = true then 0 else 90) := fun hw => by
          have h3 : us.any wrongB = true := by rw [ht, hw, Bool.true_or]
          simp [trainB, h3]
        refine ⟨fun a1 => ⟨fun a2 => ⟨fun a3 => ⟨fun a4 => ⟨fun a5 => bad (by rw [ew]; simp [a5]), fun a5 => ⟨k + 1, _, rfl, HImp.refl _ _, ⟨rfl, by omega, ?_⟩, by omega⟩⟩, fun a4 => bad (by rw [ew]; simp [a4])⟩, fun a3 => bad (by rw [ew]; simp [a3])⟩, fun a2 => bad (by rw [ew]; simp [a2])⟩, fun a1 => bad (by rw [ew]; simp [a1])⟩
        have hw : wrongB u = false := by rw [ew]; simp [a1, a3, a4, a5]; omega
        rw [ht, hw, Bool.false_or]
    · have h3 : us.any wrongB = false := by rw [ht, List.drop_of_length_le (by omega)]; rfl
      simp only [trainB, h3, h1, Bool.not_false, Bool.and_true, decide_true, and_self, if_true]

end Go.Proofs.Ytpfbpelkodlljaa
