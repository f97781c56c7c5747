/- A part of a proof: the symbolic walk and what it shows of single functions. -/
import Derived.Test.YtcnjhgnlcnmagaaDoorSd1
set_option linter.all false
namespace Go.Proofs.YtcnjhgnlcnmagaaDoor.Tw
open Go.RowKit Go.SX
set_option maxRecDepth 4000
set_option maxHeartbeats 4000000
set_option linter.unusedSimpArgs false
set_option linter.unusedVariables false

def detD : Nat → List Value → Option Value
  | 89, [.agg ⟨[.int .i64 h, .int .i64 m, .int .i64 a, .int .i64 s, .int .i64 lo, .int .i64 hi]⟩, .int .i64 wt] => some (.tuple #[I (slackR h m a s lo hi wt).1, I (slackR h m a s lo hi wt).2])
  | 90, [.agg ⟨[.int .i64 h, .int .i64 m, .int .i64 a, .int .i64 s, .int .i64 lo, .int .i64 hi]⟩, .int .i64 wt, .int .i64 str] => some (.tuple #[I (carryR h m a s lo hi wt str).1, I (carryR h m a s lo hi wt str).2])
  | g, xs => detC g xs

theorem detD_ok (w0 : World) (X : Nat → Prop) : DetFn Tryd.prog ⟨w0, X⟩ detD := by
  intro g args v h w hk
  unfold detD at h
  split at h
  · cases h
    exact det_of_fn' (slack_fn w _ _ _ _ _ _ _)
  · cases h
    exact det_of_fn' (carry_fn w _ _ _ _ _ _ _ _)
  · exact detC_ok w0 X _ _ _ h w hk

theorem detD_eq : (∀ n l h : Int, detD 91 [I n, I l, I h] = some (.bool (inB n l h))) ∧
    (∀ h m a s lo hi wt : Int, detD 89 [.agg #[I h, I m, I a, I s, I lo, I hi], I wt] = some (.tuple #[I (slackR h m a s lo hi wt).1, I (slackR h m a s lo hi wt).2])) ∧
    (∀ h m a s lo hi wt str : Int, detD 90 [.agg #[I h, I m, I a, I s, I lo, I hi], I wt, I str] = some (.tuple #[I (carryR h m a s lo hi wt str).1, I (carryR h m a s lo hi wt str).2])) := ⟨fun _ _ _ => rfl, fun _ _ _ _ _ _ _ => rfl, fun _ _ _ _ _ _ _ _ => rfl⟩

structure Tw where
  dl : Int
  dh : Int
  len : Int
  mass : Int
  str : Int

def twc (u : Tw) : List Value := [I u.dl, I u.dh, I u.len, I u.mass, I u.str]

def twcs (us : List Tw) : List Value := us.flatMap twc

theorem twcs_len (us : List Tw) : (twcs us).length = us.length * 5 := by
  induction us with
  | nil => rfl
  | cons u us ih =>
    rw [twcs, List.flatMap_cons, List.length_append]
    rw [twcs] at ih
    rw [ih]
    simp only [twc, List.length_cons, List.length_nil]
    omega

theorem twcs_get {us : List Tw} {i : Nat} {u : Tw} (h : us[i]? = some u) (j : Nat) (hj : j < 5) : (twcs us)[i * 5 + j]? = (twc u)[j]? := by
  induction us generalizing i with
  | nil => simp at h
  | cons x us ih =>
    rw [twcs, List.flatMap_cons]
    cases i with
    | zero =>
      simp only [List.getElem?_cons_zero, Option.some.injEq] at h
      subst h
      rw [List.getElem?_append_left (by simp [twc]; omega)]
      simp
    | succ i =>
      simp only [List.getElem?_cons_succ] at h
      rw [List.getElem?_append_right (by simp [twc]; omega)]
      have e : (i + 1) * 5 + j - (twc x).length = i * 5 + j := by simp [twc]; omega
      rw [e]
      exact ih h

def wrongB (u : Tw) : Bool := decide (u.dl < 1) || decide (u.dl > u.dh) || decide (u.dh > 100) || !inB u.len 1 2000 || !inB u.mass 0 20 || !inB u.str 0 1000000

theorem wrong_fn (w : World) (a b c d e : Int) : SX.Fn Tryd.prog 110 [.agg #[I a, I b, I c, I d, I e]] w (fun _ => False) fun v N => v = .bool (wrongB ⟨a, b, c, d, e⟩) := by
  refine walk [] [] (detD_ok _ _) Tryd.func110 rfl Tryd.ntmps110 res110 (by kernel_rfl) no_facts ?_
  simp (config := { maxSteps := 4000000 }) only [↓sx0, ↓sx1, ↓sx2, ↓sx3, ↓sx4, ↓sx5, ↓sx6, sx0, sx1, sx2, sx3, sx4, sx5, sx6, tf110, ev3_hold, sxo, sxc, sxp, sxq, sxr, sxs, sxl, sxm, Int.reduceBEq, Int.reduceBNe, Int.reduceLT, Int.reduceLE, Int.reduceEq, Int.reduceGT, Int.reduceGE, Int.reduceToNat, ↓reduceIte, List.reduceReplicate, Nat.reduceAdd, Nat.reduceSub, Nat.reduceMul, Nat.reduceLT, Nat.reduceLeDiff, Nat.reduceBEq, Nat.reduceEqDiff, detD_eq]
  unfold wrongB
  simp +contextual
  intros
  omega

def detE : Nat → List Value → Option Value
  | 110, [.agg ⟨[.int .i64 a, .int .i64 b, .int .i64 c, .int .i64 d, .int .i64 e]⟩] => some (.bool (wrongB ⟨a, b, c, d, e⟩))
  | g, xs => detD g xs

theorem detE_ok (w0 : World) (X : Nat → Prop) : DetFn Tryd.prog ⟨w0, X⟩ detE := by
  intro g args v h w hk
  unfold detE at h
  split at h
  · cases h
    exact det_of_fn' (wrong_fn w _ _ _ _ _)
  · exact detD_ok w0 X _ _ _ h w hk

theorem detE_eq : (∀ n l h : Int, detE 91 [I n, I l, I h] = some (.bool (inB n l h))) ∧
    (∀ u : Tw, detE 110 [.agg (twc u).toArray] = some (.bool (wrongB u))) ∧ (∀ xs, detE 111 xs = none) ∧ (∀ xs, detE 118 xs = none) := ⟨fun _ _ _ => rfl, fun _ => rfl, fun _ => rfl, fun _ => rfl⟩

/-- The first unit that is wrong, by its number; -1: there is none. -/
def fwGo : List Tw → Nat → Int
  | [], _ => -1
  | u :: us, k => if wrongB u then k else fwGo us (k + 1)

theorem index_fn (w : World) (a : Option Addr) (n c : Nat) (us : List Tw) (hs : Sl w (.slice a n c) 5 (twcs us)) (hn : us.length = n) (hb : n ≤ 1000000) : SX.Fn Tryd.prog 118 [.slice a n c, .func (.func 110) #[] #[]] w (fun _ => False) fun v N => v = I (fwGo us 0) := by
  refine walk [] [] (detE_ok _ _) Tryd.func118 rfl Tryd.ntmps118 res118 (by kernel_rfl) no_facts ?_
  simp (config := { maxSteps := 4000000 }) only [↓sx0, ↓sx1, ↓sx2, ↓sx3, ↓sx4, ↓sx5, ↓sx6, sx0, sx1, sx2, sx3, sx4, sx5, sx6, tf118, ev3_hold, sxo, sxc, sxp, sxq, sxr, sxs, sxl, sxm, Int.reduceBEq, Int.reduceBNe, Int.reduceLT, Int.reduceLE, Int.reduceEq, Int.reduceGT, Int.reduceGE, Int.reduceToNat, ↓reduceIte, List.reduceReplicate, Nat.reduceAdd, Nat.reduceSub, Nat.reduceMul, Nat.reduceLT, Nat.reduceLeDiff, Nat.reduceBEq, Nat.reduceEqDiff, detE_eq, cT110]
  refine loop_const [(5, 5), (9, 18)] (fun k : Nat => [(8, I k)]) (fun k H1 => H1 = [] ∧ k ≤ n ∧ fwGo us 0 = fwGo (us.drop k) k) (fun k => n - k) 0 ?_ ⟨rfl, Nat.zero_le _, rfl⟩ ?_
  · simp (config := { maxSteps := 4000000 }) only [↓sx0, ↓sx1, ↓sx2, ↓sx3, ↓sx4, ↓sx5, ↓sx6, sx0, sx1, sx2, sx3, sx4, sx5, sx6, tf118, ev3_hold, sxo, sxc, sxp, sxq, sxr, sxs, sxl, sxm, Int.reduceBEq, Int.reduceBNe, Int.reduceLT, Int.reduceLE, Int.reduceEq, Int.reduceGT, Int.reduceGE, Int.reduceToNat, ↓reduceIte, List.reduceReplicate, Nat.reduceAdd, Nat.reduceSub, Nat.reduceMul, Nat.reduceLT, Nat.reduceLeDiff, Nat.reduceBEq, Nat.reduceEqDiff]
    rfl
  · rintro k H1 g ⟨rfl, hk, ht⟩
    have e2 : wr (k + 1) = k + 1 := wrap_id (by omega)
    simp (config := { maxSteps := 4000000 }) only [↓sx0, ↓sx1, ↓sx2, ↓sx3, ↓sx4, ↓sx5, ↓sx6, sx0, sx1, sx2, sx3, sx4, sx5, sx6, tf118, ev3_hold, sxo, sxc, sxp, sxq, sxr, sxs, sxl, sxm, Int.reduceBEq, Int.reduceBNe, Int.reduceLT, Int.reduceLE, Int.reduceEq, Int.reduceGT, Int.reduceGE, Int.reduceToNat, ↓reduceIte, List.reduceReplicate, Nat.reduceAdd, Nat.reduceSub, Nat.reduceMul, Nat.reduceLT, Nat.reduceLeDiff, Nat.reduceBEq, Nat.reduceEqDiff, detE_eq, e2, cT110]
    refine ⟨fun h1 => ?_, fun h1 => ?_⟩
    · obtain ⟨ad, rfl⟩ := hs.addr (by rw [twcs_len]; omega)
      have hkl : k < us.length := by omega
      have hu : us[k]? = some us[k] := List.getElem?_eq_getElem hkl
      refine ⟨by omega, h1, ad, rfl, ldn (xs := twcs us) (vs := twc us[k]) (hs.rds id) rfl (fun j v hj => ?_) ?_⟩
      · have hj5 : j < 5 := (List.getElem?_eq_some_iff.1 hj).1
        rw [twcs_get hu j hj5]
        exact hj
      · rw [List.drop_eq_getElem_cons hkl] at ht
        simp only [fwGo] at ht
        simp (config := { maxSteps := 4000000 }) only [↓sx0, ↓sx1, ↓sx2, ↓sx3, ↓sx4, ↓sx5, ↓sx6, sx0, sx1, sx2, sx3, sx4, sx5, sx6, tf118, ev3_hold, sxo, sxc, sxp, sxq, sxr, sxs, sxl, sxm, Int.reduceBEq, Int.reduceBNe, Int.reduceLT, Int.reduceLE, Int.reduceEq, Int.reduceGT, Int.reduceGE, Int.reduceToNat, ↓reduceIte, List.reduceReplicate, Nat.reduceAdd, Nat.reduceSub, Nat.reduceMul, Nat.reduceLT, Nat.reduceLeDiff, Nat.reduceBEq, Nat.reduceEqDiff, detE_eq, e2, cT110]
        refine ⟨fun hw => ?_, fun hw => ⟨k + 1, _, rfl, HImp.refl _ _, ⟨rfl, by omega, ?_⟩, by omega⟩⟩
        · rw [ht, if_pos hw]
        · rw [ht, if_neg (by simp [hw])]
    · rw [ht, List.drop_of_length_le (by omega)]
      rfl

theorem contains_fn (w : World) (a : Option Addr) (n c : Nat) (us : List Tw) (hs : Sl w (.slice a n c) 5 (twcs us)) (hn : us.length = n) (hb : n ≤ 1000000) : SX.Fn Tryd.prog 111 [.slice a n c, .func (.func 110) #[] #[]] w (fun _ => False) fun v N => v = .bool (decide (fwGo us 0 ≥ 0)) := by
  refine walk [] [] (detE_ok _ _) Tryd.func111 rfl Tryd.ntmps111 res111 (by kernel_rfl) no_facts ?_
  simp (config := { maxSteps := 4000000 }) only [↓sx0, ↓sx1, ↓sx2, ↓sx3, ↓sx4, ↓sx5, ↓sx6, sx0, sx1, sx2, sx3, sx4, sx5, sx6, tf111, ev3_hold, sxo, sxc, sxp, sxq, sxr, sxs, sxl, sxm, Int.reduceBEq, Int.reduceBNe, Int.reduceLT, Int.reduceLE, Int.reduceEq, Int.reduceGT, Int.reduceGE, Int.reduceToNat, ↓reduceIte, List.reduceReplicate, Nat.reduceAdd, Nat.reduceSub, Nat.reduceMul, Nat.reduceLT, Nat.reduceLeDiff, Nat.reduceBEq, Nat.reduceEqDiff, detE_eq]
  refine CallOb.pure (fun w' hp => index_fn w' a n c us (hs.hp (fun _ _ => id) hp) hn hb) ?_
  rintro v N rfl
  simp (config := { maxSteps := 4000000 }) only [↓sx0, ↓sx1, ↓sx2, ↓sx3, ↓sx4, ↓sx5, ↓sx6, sx0, sx1, sx2, sx3, sx4, sx5, sx6, tf111, ev3_hold, sxo, sxc, sxp, sxq, sxr, sxs, sxl, sxm, Int.reduceBEq, Int.reduceBNe, Int.reduceLT, Int.reduceLE, Int.reduceEq, Int.reduceGT, Int.reduceGE, Int.reduceToNat, ↓reduceIte, List.reduceReplicate, Nat.reduceAdd, Nat.reduceSub, Nat.reduceMul, Nat.reduceLT, Nat.reduceLeDiff, Nat.reduceBEq, Nat.reduceEqDiff]

theorem fwGo_any (us : List Tw) (k : Nat) : fwGo us k ≥ 0 ↔ us.any wrongB = true := by
  induction us generalizing k with
  | nil => simp [fwGo]
  | cons u us ih =>
    have e : fwGo (u :: us) k = if wrongB u = true then (k : Int) else fwGo us (k + 1) := rfl
    rw [e]
    by_cases hw : wrongB u = true
    · simp only [hw, if_true, List.any_cons, Bool.true_or, iff_true]
      omega
    · have hf : wrongB u = false := by simpa using hw
      simp only [hf, List.any_cons, Bool.false_or, Bool.false_eq_true, if_false]
      exact ih (k + 1)

/-- A train that is valid. -/
def trainB (us : List Tw) : Bool := decide (1 ≤ us.length ∧ us.length ≤ 8) && !us.any wrongB

theorem check2_fn (w : World) (a : Option Addr) (n c : Nat) (us : List Tw) (hs : Sl w (.slice a n c) 5 (twcs us)) (hn : us.length = n) : SX.Fn Tryd.prog 103 [.agg #[.slice a n c]] w (fun _ => False) fun v N => v = I (if trainB us then 0 else 90) := by
  refine walk [] [] (detE_ok _ _) Tryd.func103 rfl Tryd.ntmps103 res103 (by kernel_rfl) no_facts ?_
  have hin : inB n 1 8 = decide (1 ≤ us.length ∧ us.length ≤ 8) := by
    unfold inB
    rw [decide_eq_decide]
    omega
  simp (config := { maxSteps := 4000000 }) only [↓sx0, ↓sx1, ↓sx2, ↓sx3, ↓sx4, ↓sx5, ↓sx6, sx0, sx1, sx2, sx3, sx4, sx5, sx6, tf103, ev3_hold, sxo, sxc, sxp, sxq, sxr, sxs, sxl, sxm, Int.reduceBEq, Int.reduceBNe, Int.reduceLT, Int.reduceLE, Int.reduceEq, Int.reduceGT, Int.reduceGE, Int.reduceToNat, ↓reduceIte, List.reduceReplicate, Nat.reduceAdd, Nat.reduceSub, Nat.reduceMul, Nat.reduceLT, Nat.reduceLeDiff, Nat.reduceBEq, Nat.reduceEqDiff, detE_eq, hin]
  refine ⟨fun h1 => ?_, fun h1 => ?_⟩
  · refine CallOb.pure (fun w' hp => contains_fn w' a n c us (hs.hp (fun _ _ => id) hp) hn (by omega)) ?_
    rintro v N rfl
    simp (config := { maxSteps := 4000000 }) only [↓sx0, ↓sx1, ↓sx2, ↓sx3, ↓sx4, ↓sx5, ↓sx6, sx0, sx1, sx2, sx3, sx4, sx5, sx6, tf103, ev3_hold, sxo, sxc, sxp, sxq, sxr, sxs, sxl, sxm, Int.reduceBEq, Int.reduceBNe, Int.reduceLT, Int.reduceLE, Int.reduceEq, Int.reduceGT, Int.reduceGE, Int.reduceToNat, ↓reduceIte, List.reduceReplicate, Nat.reduceAdd, Nat.reduceSub, Nat.reduceMul, Nat.reduceLT, Nat.reduceLeDiff, Nat.reduceBEq, Nat.reduceEqDiff]
    refine ⟨fun h2 => ?_, fun h2 => ?_⟩
    · have h3 := (fwGo_any us 0).1 h2
      simp only [trainB, h3, Bool.not_true, Bool.and_false, Bool.false_eq_true, if_false]
    · have h3 : us.any wrongB = false := Bool.eq_false_iff.2 fun h => h2 ((fwGo_any us 0).2 h)
      simp only [trainB, h3, h1, Bool.not_false, Bool.and_true, decide_true, and_self, if_true]
  · simp [trainB, h1]

theorem twc_len (u : Tw) : (twc u).length = 5 := rfl

theorem twcs_cat (us : List Tw) : twcs us = cat twc us := rfl

theorem same_fn (w : World) (v v' : Value) (l m : List Int) (hs : Sl w v 1 (ints l)) (hs' : Sl w v' 1 (ints m)) (hb : l.length ≤ 1099511627776) : SX.Fn Tryd.prog 55 [v, v'] w (fun _ => False) fun v N => v = .bool (decide (l = m)) := by
  obtain ⟨a, n, c, rfl⟩ := hs.shape
  obtain ⟨a', n', c', rfl⟩ := hs'.shape
  have hn := hs.le i1_len (by omega)
  have hn' := hs'.le i1_len (by omega)
  have hr := hs.rd0
  have hr' := hs'.rd0
  refine walk [] [] (det0_ok _ _) Tryd.func55 rfl Tryd.ntmps55 res55 (by kernel_rfl) no_facts ?_
  by_cases hl : n = n'
  · subst hl
    simp (config := { maxSteps := 4000000 }) only [↓sx0, ↓sx1, ↓sx2, ↓sx3, ↓sx4, ↓sx5, ↓sx6, sx0, sx1, sx2, sx3, sx4, sx5, sx6, tf55, ev3_hold, sxo, sxc, sxp, sxq, sxr, sxs, sxl, sxm, Int.reduceBEq, Int.reduceBNe, Int.reduceLT, Int.reduceLE, Int.reduceEq, Int.reduceGT, Int.reduceGE, Int.reduceToNat, ↓reduceIte, List.reduceReplicate, Nat.reduceAdd, Nat.reduceSub, Nat.reduceMul, Nat.reduceLT, Nat.reduceLeDiff, Nat.reduceBEq, Nat.reduceEqDiff]
    refine loop_const [(4, 5), (11, 25)] (fun k : Nat => [(5, I k)]) (fun k H1 => H1 = [] ∧ k ≤ n ∧ (l = m ↔ l.drop k = m.drop k)) (fun k => n - k) 0 ?_ ⟨rfl, Nat.zero_le _, Iff.rfl⟩ ?_
    · simp (config := { maxSteps := 4000000 }) only [↓sx0, ↓sx1, ↓sx2, ↓sx3, ↓sx4, ↓sx5, ↓sx6, sx0, sx1, sx2, sx3, sx4, sx5, sx6, tf55, ev3_hold, sxo, sxc, sxp, sxq, sxr, sxs, sxl, sxm, Int.reduceBEq, Int.reduceBNe, Int.reduceLT, Int.reduceLE, Int.reduceEq, Int.reduceGT, Int.reduceGE, Int.reduceToNat, ↓reduceIte, List.reduceReplicate, Nat.reduceAdd, Nat.reduceSub, Nat.reduceMul, Nat.reduceLT, Nat.reduceLeDiff, Nat.reduceBEq, Nat.reduceEqDiff]
      rfl
    · rintro k H1 g ⟨rfl, hk, ht⟩
      have e2 : wr (k + 1) = k + 1 := wrap_id (by omega)
      simp (config := { maxSteps := 4000000 }) only [↓sx0, ↓sx1, ↓sx2, ↓sx3, ↓sx4, ↓sx5, ↓sx6, sx0, sx1, sx2, sx3, sx4, sx5, sx6, tf55, ev3_hold, sxo, sxc, sxp, sxq, sxr, sxs, sxl, sxm, Int.reduceBEq, Int.reduceBNe, Int.reduceLT, Int.reduceLE, Int.reduceEq, Int.reduceGT, Int.reduceGE, Int.reduceToNat, ↓reduceIte, List.reduceReplicate, Nat.reduceAdd, Nat.reduceSub, Nat.reduceMul, Nat.reduceLT, Nat.reduceLeDiff, Nat.reduceBEq, Nat.reduceEqDiff, e2]
      refine ⟨fun h1 => ?_, fun h1 => ?_⟩
      · have hkl : k < l.length := by omega
        have hkm : k < m.length := by omega
        refine at_1 (hr _) i1_len (List.getElem?_eq_getElem hkl) rfl fun ad => ?_
        simp (config := { maxSteps := 4000000 }) only [↓sx0, ↓sx1, ↓sx2, ↓sx3, ↓sx4, ↓sx5, ↓sx6, sx0, sx1, sx2, sx3, sx4, sx5, sx6, tf55, ev3_hold, sxo, sxc, sxp, sxq, sxr, sxs, sxl, sxm, Int.reduceBEq, Int.reduceBNe, Int.reduceLT, Int.reduceLE, Int.reduceEq, Int.reduceGT, Int.reduceGE, Int.reduceToNat, ↓reduceIte, List.reduceReplicate, Nat.reduceAdd, Nat.reduceSub, Nat.reduceMul, Nat.reduceLT, Nat.reduceLeDiff, Nat.reduceBEq, Nat.reduceEqDiff, e2]
        refine at_1 (hr' _) i1_len (List.getElem?_eq_getElem hkm) rfl fun ad' => ?_
        rw [List.drop_eq_getElem_cons hkl, List.drop_eq_getElem_cons hkm, List.cons.injEq] at ht
        simp (config := { maxSteps := 4000000 }) only [↓sx0, ↓sx1, ↓sx2, ↓sx3, ↓sx4, ↓sx5, ↓sx6, sx0, sx1, sx2, sx3, sx4, sx5, sx6, tf55, ev3_hold, sxo, sxc, sxp, sxq, sxr, sxs, sxl, sxm, Int.reduceBEq, Int.reduceBNe, Int.reduceLT, Int.reduceLE, Int.reduceEq, Int.reduceGT, Int.reduceGE, Int.reduceToNat, ↓reduceIte, List.reduceReplicate, Nat.reduceAdd, Nat.reduceSub, Nat.reduceMul, Nat.reduceLT, Nat.reduceLeDiff, Nat.reduceBEq, Nat.reduceEqDiff, e2]
        refine ⟨fun h2 => ?_, fun h2 => ⟨k + 1, _, rfl, HImp.refl _ _, ⟨rfl, by omega, ?_⟩, by omega⟩⟩
        · have : ¬ l = m := fun h => h2 (ht.1 h).1
          simp [this]
        · rw [ht]
          exact ⟨fun h => h.2, fun h => ⟨h2, h⟩⟩
      · have : l = m := by rw [ht, List.drop_of_length_le (by omega), List.drop_of_length_le (by omega)]
        simp [this]
  · simp (config := { maxSteps := 4000000 }) only [↓sx0, ↓sx1, ↓sx2, ↓sx3, ↓sx4, ↓sx5, ↓sx6, sx0, sx1, sx2, sx3, sx4, sx5, sx6, tf55, ev3_hold, sxo, sxc, sxp, sxq, sxr, sxs, sxl, sxm, Int.reduceBEq, Int.reduceBNe, Int.reduceLT, Int.reduceLE, Int.reduceEq, Int.reduceGT, Int.reduceGE, Int.reduceToNat, ↓reduceIte, List.reduceReplicate, Nat.reduceAdd, Nat.reduceSub, Nat.reduceMul, Nat.reduceLT, Nat.reduceLeDiff, Nat.reduceBEq, Nat.reduceEqDiff]
    refine ⟨fun _ => ?_, fun h1 => absurd (by omega) hl⟩
    have : l ≠ m := fun h => hl (by rw [← hn, ← hn', h])
    simp [this]

def boundsV (len mass str v d : Int) : (Int × Int) × Bool :=
  if mass > 0 then
    if d = 0 then ((0, wr (str.tdiv (wr (v * v)))), false)
    else ((upV (wr (wr (mass * len) * len)) (wr (wr (wr (8 * v) * v) * d)), wr (str.tdiv (wr (v * v)))), decide (upV (wr (wr (mass * len) * len)) (wr (wr (wr (8 * v) * v) * d)) ≤ wr (str.tdiv (wr (v * v)))))
  else ((0, wr (str.tdiv (wr (v * v)))), decide (0 ≤ wr (str.tdiv (wr (v * v)))))

theorem bounds_fn (w : World) (a b c v d : Int) (h1 : wr (v * v) ≠ 0) (h2 : b > 0 → d ≠ 0 → wr (wr (wr (8 * v) * v) * d) ≠ 0) : SX.Fn Tryd.prog 113 [.agg #[I a, I b, I c], I v, I d] w (fun _ => False) fun r N => r = .tuple #[.agg #[I (boundsV a b c v d).1.1, I (boundsV a b c v d).1.2], .bool (boundsV a b c v d).2] := by
  refine walk [] [(6, (ones [0, 1, 3] (.alt 2 (.alt 4 (ones [5, 6, 7] .fin) (.alt 6 (ones [4, 5, 7] .fin) .no)) (.alt 4 (.alt 2 (ones [5, 6, 7] .fin) (.alt 6 (ones [2, 5, 7] .fin) .no)) (.alt 6 (ones [2, 4, 5, 7] .fin) .no)))))] (detE_ok _ _) Tryd.func113 rfl Tryd.ntmps113 res113 (by kernel_rfl) no_facts ?_
  by_cases hb : b > 0
  · by_cases hd : d = 0
    · subst hd
      simp (config := { maxSteps := 4000000 }) only [↓sx0, ↓sx1, ↓sx2, ↓sx3, ↓sx4, ↓sx5, ↓sx6, sx0, sx1, sx2, sx3, sx4, sx5, sx6, tf113, ev3_hold, sxo, sxc, sxp, sxq, sxr, sxs, sxl, sxm, Int.reduceBEq, Int.reduceBNe, Int.reduceLT, Int.reduceLE, Int.reduceEq, Int.reduceGT, Int.reduceGE, Int.reduceToNat, ↓reduceIte, List.reduceReplicate, Nat.reduceAdd, Nat.reduceSub, Nat.reduceMul, Nat.reduceLT, Nat.reduceLeDiff, Nat.reduceBEq, Nat.reduceEqDiff, detE_eq, hb]
      refine ⟨h1, ?_⟩
      have e : boundsV a b c v 0 = ((0, wr (c.tdiv (wr (v * v)))), false) := by rw [boundsV, if_pos hb, if_pos rfl]
      rw [e]
    · have e36 : detE 107 [I (wr (wr (b * a) * a)), I (wr (wr (wr (8 * v) * v) * d))] = some (I (upV (wr (wr (b * a) * a)) (wr (wr (wr (8 * v) * v) * d)))) := by simp [detE, detD, detC, detB, detA, h2 hb hd]
      simp (config := { maxSteps := 4000000 }) only [↓sx0, ↓sx1, ↓sx2, ↓sx3, ↓sx4, ↓sx5, ↓sx6, sx0, sx1, sx2, sx3, sx4, sx5, sx6, tf113, ev3_hold, sxo, sxc, sxp, sxq, sxr, sxs, sxl, sxm, Int.reduceBEq, Int.reduceBNe, Int.reduceLT, Int.reduceLE, Int.reduceEq, Int.reduceGT, Int.reduceGE, Int.reduceToNat, ↓reduceIte, List.reduceReplicate, Nat.reduceAdd, Nat.reduceSub, Nat.reduceMul, Nat.reduceLT, Nat.reduceLeDiff, Nat.reduceBEq, Nat.reduceEqDiff, detE_eq, hb, hd, e36]
      refine ⟨h1, ?_⟩
      rw [boundsV, if_pos hb, if_neg hd]
  · simp (config := { maxSteps := 4000000 }) only [↓sx0, ↓sx1, ↓sx2, ↓sx3, ↓sx4, ↓sx5, ↓sx6, sx0, sx1, sx2, sx3, sx4, sx5, sx6, tf113, ev3_hold, sxo, sxc, sxp, sxq, sxr, sxs, sxl, sxm, Int.reduceBEq, Int.reduceBNe, Int.reduceLT, Int.reduceLE, Int.reduceEq, Int.reduceGT, Int.reduceGE, Int.reduceToNat, ↓reduceIte, List.reduceReplicate, Nat.reduceAdd, Nat.reduceSub, Nat.reduceMul, Nat.reduceLT, Nat.reduceLeDiff, Nat.reduceBEq, Nat.reduceEqDiff, detE_eq, hb]
    refine ⟨h1, ?_⟩
    rw [boundsV, if_neg hb]

open Classical in
noncomputable def detF (v : Value) (us : List Tw) : Nat → List Value → Option Value
  | 103, xs => if xs = [.agg #[v]] then some (I (if trainB us then 0 else 90)) else none
  | 113, [.agg ⟨[.int .i64 a, .int .i64 b, .int .i64 c]⟩, .int .i64 v, .int .i64 d] => if wr (v * v) ≠ 0 ∧ (b > 0 → d ≠ 0 → wr (wr (wr (8 * v) * v) * d) ≠ 0) then some (.tuple #[.agg #[I (boundsV a b c v d).1.1, I (boundsV a b c v d).1.2], .bool (boundsV a b c v d).2]) else none
  | g, xs => detE g xs

theorem detF_ok {v : Value} {us : List Tw} {w0 : World} {X : Nat → Prop} (hs : Sl w0 v 5 (twcs us)) (hX : ∀ b, rsl w0 v b → ¬ X b) : DetFn Tryd.prog ⟨w0, X⟩ (detF v us) := by
  intro g args r h w hk
  obtain ⟨a, n, c, rfl⟩ := hs.shape
  have hn := hs.le (f := twc) twc_len (by omega)
  have hs' := hs.keepR hk hX
  unfold detF at h
  split at h
  · split at h
    · subst_vars
      cases h
      exact det_of_fn' (check2_fn w a _ c us hs' rfl)
    · cases h
  · split at h
    · rename_i hc
      cases h
      exact det_of_fn' (bounds_fn w _ _ _ _ _ hc.1 hc.2)
    · cases h
  · exact detE_ok w0 X _ _ _ h w hk

theorem detF_eq (v : Value) (us : List Tw) : (detF v us 103 [.agg #[v]] = some (I (if trainB us then 0 else 90))) ∧
    (∀ n l h : Int, detF v us 91 [I n, I l, I h] = some (.bool (inB n l h))) := ⟨by simp [detF], fun _ _ _ => rfl⟩

theorem detF_bounds (us : List Tw) (s : Value) {a b c v d : Int} (h1 : wr (v * v) ≠ 0) (h2 : b > 0 → d ≠ 0 → wr (wr (wr (8 * v) * v) * d) ≠ 0) :
    detF s us 113 [.agg #[I a, I b, I c], I v, I d] = some (.tuple #[.agg #[I (boundsV a b c v d).1.1, I (boundsV a b c v d).1.2], .bool (boundsV a b c v d).2]) :=
  if_pos ⟨h1, h2⟩

theorem twc_one (u : Tw) : ∀ y ∈ twc u, y.oneCell' = true := by simp [twc, Value.oneCell']

def exT : List Tw := [⟨4, 6, 200, 1, 1000⟩, ⟨2, 3, 100, 1, 100⟩]

theorem example_fn (w : World) : SX.Fn Tryd.prog 87 [] w (fun _ => False) fun r N => ∃ b, r = .tuple #[.agg #[.slice (some ⟨b, 0, none⟩) 2 2], .agg #[I 9, I 400, I 3, I 100], .agg #[I 300, I 100, I 200, I 20, I 80, I 100]] ∧ N = [.row (.slice (some ⟨b, 0, none⟩) 2 2) 138 5 (twcs exT)] := by
  refine walk [] [] (det0_ok _ _) Tryd.func87 rfl Tryd.ntmps87 res87 (by kernel_rfl) no_facts ?_
  simp (config := { maxSteps := 4000000 }) only [↓sx0, ↓sx1, ↓sx2, ↓sx3, ↓sx4, ↓sx5, ↓sx6, sx0, sx1, sx2, sx3, sx4, sx5, sx6, tf87, ev3_hold, sxo, sxc, sxp, sxq, sxr, sxs, sxl, sxm, Int.reduceBEq, Int.reduceBNe, Int.reduceLT, Int.reduceLE, Int.reduceEq, Int.reduceGT, Int.reduceGE, Int.reduceToNat, ↓reduceIte, List.reduceReplicate, Nat.reduceAdd, Nat.reduceSub, Nat.reduceMul, Nat.reduceLT, Nat.reduceLeDiff, Nat.reduceBEq, Nat.reduceEqDiff]
  exact fun b => ⟨b, rfl, rfl⟩

end Go.Proofs.YtcnjhgnlcnmagaaDoor.Tw
