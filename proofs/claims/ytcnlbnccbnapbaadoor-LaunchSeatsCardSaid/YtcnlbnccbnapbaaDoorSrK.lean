/- A part of a proof: the symbolic walk and what it shows of single functions. -/
import Derived.Test.YtcnlbnccbnapbaaDoorR5
set_option linter.all false
namespace Go.Proofs.YtcnlbnccbnapbaaDoor
open Go.RowKit Go.SX
set_option maxRecDepth 10000
set_option maxHeartbeats 0
set_option linter.unusedSimpArgs false
set_option linter.unusedVariables false
theorem boardA_facts {cs : List Cls} {people : Int} (hE : boardE cs people = 0) : ((boardA cs people).2 = 3 ∧ (boardA cs people).1 = [] ∧ ∀ y, y.Sublist (idx cs.length) → seatsL cs y < people) ∨
    ((boardA cs people).2 = 0 ∧ (boardA cs people).1.Sublist (idx cs.length) ∧ seatsL cs (boardA cs people).1 ≥ people ∧ ∀ y, y.Sublist (idx cs.length) → seatsL cs y ≥ people → befB y (boardA cs people).1 = false) := by
  unfold boardA fstA
  rw [if_pos hE]
  cases h : fstL (fun x => decide (seatsL cs x ≥ people)) cs.length with
  | none =>
    refine .inl ⟨rfl, rfl, fun y hy => ?_⟩
    have := fst_none h y hy
    simp only [decide_eq_false_iff_not] at this
    omega
  | some x =>
    obtain ⟨h1, h2, h3⟩ := fst_some h
    exact .inr ⟨rfl, h1, of_decide_eq_true h2, fun y hy hp => h3 y hy (decide_eq_true hp)⟩
theorem seats_sum (cs : List Cls) : ∀ n, n ≤ cs.length → sumB (seatAt cs) (idx n) = sumB Cls.seats (cs.take n) := by
  intro n
  induction n with
  | zero => intro _; rfl
  | succ n ih =>
    intro h
    have hu : cs[n]? = some cs[n] := List.getElem?_eq_getElem (by omega)
    rw [idx_succ, sumB_append, ih (by omega), sumB_take _ hu]
    have : seatAt cs n = cs[n].seats := by unfold seatAt; rw [Int.toNat_natCast, hu]
    simp [sumB, this]
theorem sorted_getElem {n : Nat} {x : List Int} (h : x.Sublist (idx n)) {i j : Nat} (hij : i < j) (hj : j < x.length) : x[i] < x[j] :=
  List.pairwise_iff_getElem.1 ((idx_sorted n).sublist h) i j (by omega) hj hij
theorem lex_rest {x y : List Int} (hl : x.length = y.length) (h : lexB y x = false) : ∀ i, (hi : i ≤ x.length) → (∀ j, (hj : j < i) → x[j]? = y[j]?) → lexB (y.drop i) (x.drop i) = false := by
  intro i
  induction i with
  | zero => intro _ _; exact h
  | succ i ih =>
    intro hi hq
    have h1 := ih (by omega) fun j hj => hq j (by omega)
    have h2 := hq i (by omega)
    have e1 : x[i]? = some x[i] := List.getElem?_eq_getElem (by omega)
    have e2 : y[i]? = some y[i] := List.getElem?_eq_getElem (by omega)
    rw [e1, e2] at h2
    injection h2 with h2
    rw [List.drop_eq_getElem_cons (show i < y.length by omega), List.drop_eq_getElem_cons (show i < x.length by omega), lexB, if_pos h2.symm] at h1
    exact h1
theorem launchSeats_fn (w : World) (hw : Ways w) (v : Value) (cs : List Cls) (hs : Sl w v 7 (cat clc cs)) (people set : Int) :
    SX.Fn Tryd.prog 10 [v, I people, I set] w (fun _ => False) fun r N => r = .bool true := by
  have hwk := fun (H : List HO) w' (hp : Hp ⟨w, fun _ => False⟩ H w') => works5_fn w' (hw.hp hp)
  obtain ⟨a, n, c, rfl⟩ := hs.shape
  have hn := hs.le clc_len (by omega)
  subst hn
  have hr := hs.rd0
  have dn : (∀ xs, detL 15 xs = none) ∧ (∀ xs, detL 34 xs = none) := ⟨fun _ => rfl, fun _ => rfl⟩
  have hclv : ∀ b : Cls, detL 31 [.agg (clc b).toArray] = some (I (if clsB b then 0 else 50)) := fun b => rfl
  by_cases h1 : cs.length > 10
  · have e1 : ((cs.length : Int) > 10) = True := eq_true (by omega)
    refine walk [] [] (detL_ok _ _) Tryd.func10 rfl Tryd.ntmps10 res10 (by kernel_rfl) no_facts ?_
    simp (config := { maxSteps := 4000000 }) only [↓sx0, ↓sx1, ↓sx2, ↓sx3, ↓sx4, ↓sx5, ↓sx6, sx0, sx1, sx2, sx3, sx4, sx5, sx6, tf10, ev3_hold, sxo, sxc, sxp, sxq, sxr, sxs, sxl, sxm, Int.reduceBEq, Int.reduceBNe, Int.reduceLT, Int.reduceLE, Int.reduceEq, Int.reduceGT, Int.reduceGE, Int.reduceToNat, ↓reduceIte, List.reduceReplicate, Nat.reduceAdd, Nat.reduceSub, Nat.reduceMul, Nat.reduceLT, Nat.reduceLeDiff, Nat.reduceBEq, Nat.reduceEqDiff, e1, dn]
    refine CallOb.pureH (fun w' hp => hwk _ w' hp) ?_
    rintro rW NW rfl
    refine ⟨?_⟩
    simp (config := { maxSteps := 4000000 }) only [↓sx0, ↓sx1, ↓sx2, ↓sx3, ↓sx4, ↓sx5, ↓sx6, sx0, sx1, sx2, sx3, sx4, sx5, sx6, tf10, ev3_hold, sxo, sxc, sxp, sxq, sxr, sxs, sxl, sxm, Int.reduceBEq, Int.reduceBNe, Int.reduceLT, Int.reduceLE, Int.reduceEq, Int.reduceGT, Int.reduceGE, Int.reduceToNat, ↓reduceIte, List.reduceReplicate, Nat.reduceAdd, Nat.reduceSub, Nat.reduceMul, Nat.reduceLT, Nat.reduceLeDiff, Nat.reduceBEq, Nat.reduceEqDiff]
  have e1 : ((cs.length : Int) > 10) = False := eq_false (by omega)
  by_cases h2 : people < 0
  · have e2 : (people < 0) = True := eq_true h2
    refine walk [] [] (detL_ok _ _) Tryd.func10 rfl Tryd.ntmps10 res10 (by kernel_rfl) no_facts ?_
    simp (config := { maxSteps := 4000000 }) only [↓sx0, ↓sx1, ↓sx2, ↓sx3, ↓sx4, ↓sx5, ↓sx6, sx0, sx1, sx2, sx3, sx4, sx5, sx6, tf10, ev3_hold, sxo, sxc, sxp, sxq, sxr, sxs, sxl, sxm, Int.reduceBEq, Int.reduceBNe, Int.reduceLT, Int.reduceLE, Int.reduceEq, Int.reduceGT, Int.reduceGE, Int.reduceToNat, ↓reduceIte, List.reduceReplicate, Nat.reduceAdd, Nat.reduceSub, Nat.reduceMul, Nat.reduceLT, Nat.reduceLeDiff, Nat.reduceBEq, Nat.reduceEqDiff, e1, e2, dn]
    refine CallOb.pureH (fun w' hp => hwk _ w' hp) ?_
    rintro rW NW rfl
    refine ⟨?_⟩
    simp (config := { maxSteps := 4000000 }) only [↓sx0, ↓sx1, ↓sx2, ↓sx3, ↓sx4, ↓sx5, ↓sx6, sx0, sx1, sx2, sx3, sx4, sx5, sx6, tf10, ev3_hold, sxo, sxc, sxp, sxq, sxr, sxs, sxl, sxm, Int.reduceBEq, Int.reduceBNe, Int.reduceLT, Int.reduceLE, Int.reduceEq, Int.reduceGT, Int.reduceGE, Int.reduceToNat, ↓reduceIte, List.reduceReplicate, Nat.reduceAdd, Nat.reduceSub, Nat.reduceMul, Nat.reduceLT, Nat.reduceLeDiff, Nat.reduceBEq, Nat.reduceEqDiff]
  have e2 : (people < 0) = False := eq_false h2
  have hb1 := fun w' (hp : Sl w' (.slice a cs.length c) 7 (cat clc cs)) => board_fn w' _ cs people hp (by omega)
  have hb3 := fun (N : List HO) (q : Value) (h : BoardP cs people q N) => h.ans
  have hfa := fun h => boardA_facts (cs := cs) (people := people) h
  obtain ⟨⟨X, E⟩, hA⟩ : ∃ A, boardA cs people = A := ⟨_, rfl⟩
  simp only [hA] at hb3 hfa
  obtain ⟨p, hp⟩ : ∃ p, bitP set = p := ⟨_, rfl⟩
  have hbp : ∀ i, p i = decide (bitS .and .i64 (set.fdiv (2 ^ (min i IntKind.i64.bits))) 1 = 1) := fun i => by rw [← hp]; rfl
  obtain ⟨A, hAA⟩ : ∃ A : Nat → Int, ∀ i, sumB Cls.seats (cs.take i) = A i := ⟨_, fun _ => rfl⟩
  obtain ⟨M, hM⟩ : ∃ M : Nat → Int, ∀ i, seatsL cs (pick p i) = M i := ⟨_, fun _ => rfl⟩
  have hA0 : A 0 = 0 := by rw [← hAA]; rfl
  have hM0 : M 0 = 0 := by rw [← hM]; rfl
  have hAs : ∀ i b, cs[i]? = some b → A (i + 1) = A i + b.seats := fun i b h => by rw [← hAA, ← hAA, sumB_take _ h]
  have hMs : ∀ i b, cs[i]? = some b → M (i + 1) = M i + if p i then b.seats else 0 := fun i b h => by
    rw [← hM, ← hM]
    unfold seatsL
    rw [pick_succ, sumB_append]
    have : seatAt cs i = b.seats := by unfold seatAt; rw [Int.toNat_natCast, h]
    cases p i <;> simp [sumB, this]
  refine walk [] [] (detL_ok _ _) Tryd.func10 rfl Tryd.ntmps10 res10 (by kernel_rfl) no_facts ?_
  simp (config := { maxSteps := 4000000 }) only [↓sx0, ↓sx1, ↓sx2, ↓sx3, ↓sx4, ↓sx5, ↓sx6, sx0, sx1, sx2, sx3, sx4, sx5, sx6, tf10, ev3_hold, sxo, sxc, sxp, sxq, sxr, sxs, sxl, sxm, Int.reduceBEq, Int.reduceBNe, Int.reduceLT, Int.reduceLE, Int.reduceEq, Int.reduceGT, Int.reduceGE, Int.reduceToNat, ↓reduceIte, List.reduceReplicate, Nat.reduceAdd, Nat.reduceSub, Nat.reduceMul, Nat.reduceLT, Nat.reduceLeDiff, Nat.reduceBEq, Nat.reduceEqDiff, e1, e2]
  refine loop_constH [HO.row (.slice none 0 0) 3 1 (ints (pick p 0))] (HImp.nilRow _ _ _ _) [(6, 6), (8, 11), (24, 60)] (fun q : Nat × Option Addr × Nat => [(8, I (A q.1)), (9, I (M q.1)), (10, .slice q.2.1 (pick p q.1).length q.2.2), (11, I q.1)])
    (fun q H1 => (q.1 ≤ cs.length ∧ (cs.take q.1).all clsB = true) ∧ (q.2.1 = none → pick p q.1 = []) ∧ H1 = [HO.row (.slice q.2.1 (pick p q.1).length q.2.2) 3 1 (ints (pick p q.1))]) (fun q => cs.length - q.1) (0, none, 0) ?_ ⟨⟨Nat.zero_le _, rfl⟩, fun _ => rfl, rfl⟩ ?_
  · rw [hA0, hM0]
    simp (config := { maxSteps := 4000000 }) only [↓sx0, ↓sx1, ↓sx2, ↓sx3, ↓sx4, ↓sx5, ↓sx6, sx0, sx1, sx2, sx3, sx4, sx5, sx6, tf10, ev3_hold, sxo, sxc, sxp, sxq, sxr, sxs, sxl, sxm, Int.reduceBEq, Int.reduceBNe, Int.reduceLT, Int.reduceLE, Int.reduceEq, Int.reduceGT, Int.reduceGE, Int.reduceToNat, ↓reduceIte, List.reduceReplicate, Nat.reduceAdd, Nat.reduceSub, Nat.reduceMul, Nat.reduceLT, Nat.reduceLeDiff, Nat.reduceBEq, Nat.reduceEqDiff]
    try simp [pick]
  rintro ⟨i, az, cz⟩ H1 g1 ⟨⟨hi, hall⟩, hnil, rfl⟩
  simp only [] at hi hnil hall
  by_cases hin : i = cs.length
  case neg =>
    have e7 : ((i : Int) < (cs.length : Int)) = True := eq_true (by omega)
    have e8 : wr (i + 1) = ((i + 1 : Nat) : Int) := (wrap_id (by omega)).trans (by omega)
    have e9 := u64w (i := i) (by omega)
    have hil : i < cs.length := by omega
    have hu := List.getElem?_eq_getElem hil
    obtain ⟨x, hx⟩ : ∃ x, cs[i] = x := ⟨_, rfl⟩
    rw [hx] at hu
    cases hb : clsB x with
    | false =>
      refine ⟨?_⟩
      simp (config := { maxSteps := 4000000 }) only [↓sx0, ↓sx1, ↓sx2, ↓sx3, ↓sx4, ↓sx5, ↓sx6, sx0, sx1, sx2, sx3, sx4, sx5, sx6, tf10, ev3_hold, sxo, sxc, sxp, sxq, sxr, sxs, sxl, sxm, Int.reduceBEq, Int.reduceBNe, Int.reduceLT, Int.reduceLE, Int.reduceEq, Int.reduceGT, Int.reduceGE, Int.reduceToNat, ↓reduceIte, List.reduceReplicate, Nat.reduceAdd, Nat.reduceSub, Nat.reduceMul, Nat.reduceLT, Nat.reduceLeDiff, Nat.reduceBEq, Nat.reduceEqDiff, e7]
      refine amid (at_n (hr _) clc_len (by omega) hu fun ad => ?_)
      simp (config := { maxSteps := 4000000 }) only [↓sx0, ↓sx1, ↓sx2, ↓sx3, ↓sx4, ↓sx5, ↓sx6, sx0, sx1, sx2, sx3, sx4, sx5, sx6, tf10, ev3_hold, sxo, sxc, sxp, sxq, sxr, sxs, sxl, sxm, Int.reduceBEq, Int.reduceBNe, Int.reduceLT, Int.reduceLE, Int.reduceEq, Int.reduceGT, Int.reduceGE, Int.reduceToNat, ↓reduceIte, List.reduceReplicate, Nat.reduceAdd, Nat.reduceSub, Nat.reduceMul, Nat.reduceLT, Nat.reduceLeDiff, Nat.reduceBEq, Nat.reduceEqDiff, hclv, hb, dn]
      refine CallOb.pureH (fun w' hp => hwk _ w' hp) ?_
      rintro rW NW rfl
      refine ⟨?_⟩
      simp (config := { maxSteps := 4000000 }) only [↓sx0, ↓sx1, ↓sx2, ↓sx3, ↓sx4, ↓sx5, ↓sx6, sx0, sx1, sx2, sx3, sx4, sx5, sx6, tf10, ev3_hold, sxo, sxc, sxp, sxq, sxr, sxs, sxl, sxm, Int.reduceBEq, Int.reduceBNe, Int.reduceLT, Int.reduceLE, Int.reduceEq, Int.reduceGT, Int.reduceGE, Int.reduceToNat, ↓reduceIte, List.reduceReplicate, Nat.reduceAdd, Nat.reduceSub, Nat.reduceMul, Nat.reduceLT, Nat.reduceLeDiff, Nat.reduceBEq, Nat.reduceEqDiff]
    | true =>
    have hall2 : (cs.take (i + 1)).all clsB = true := by rw [List.take_succ, hu, List.all_append, hall]; simp [hb]
    have hgl : ∀ k, k ≤ i + 1 → (0 ≤ A k ∧ A k ≤ 400) ∧ 0 ≤ M k ∧ M k ≤ 400 := fun k hk => by
      have h1 := sumB_bound Cls.seats 40 (cs.take k) fun b hb => by
        have hm : b ∈ cs.take (i + 1) := List.mem_of_mem_take (i := k) (by rw [List.take_take, Nat.min_eq_left hk]; exact hb)
        have := (clsB_iff b).1 (List.all_eq_true.1 hall2 b hm)
        omega
      have h2 := sumB_bound (seatAt cs) 40 (pick p k) fun j hj => by
        have hj2 := idx_mem.1 ((pick_sub p k).subset hj)
        obtain ⟨j, rfl⟩ : ∃ m : Nat, j = m := ⟨j.toNat, by omega⟩
        have hjl : j < cs.length := by omega
        have hm : cs[j] ∈ cs.take (i + 1) := List.mem_of_getElem? (i := j) (by rw [List.getElem?_take, if_pos (by omega)]; exact List.getElem?_eq_getElem hjl)
        have := (clsB_iff _).1 (List.all_eq_true.1 hall2 _ hm)
        unfold seatAt
        rw [Int.toNat_natCast, List.getElem?_eq_getElem hjl]
        simp only []
        omega
      have h3 : (cs.take k).length * 40 ≤ 10 * 40 := Nat.mul_le_mul_right 40 (by rw [List.length_take]; omega)
      have h4 : (pick p k).length * 40 ≤ 10 * 40 := Nat.mul_le_mul_right 40 (by have := sub_len (pick_sub p k); omega)
      rw [hAA] at h1
      have h5 := hM k
      unfold seatsL at h5
      rw [h5] at h2
      omega
    have c1 := hAs i x hu
    have c2 := hMs i x hu
    have d1 := hgl i (by omega)
    have d2 := hgl (i + 1) (Nat.le_refl _)
    have w1 : wr (A i + x.seats) = A (i + 1) := by rw [← c1]; exact wrap_id (by omega)
    have hbi := hbp i
    have hps := pick_succ p i
    cases hc : p i with
    | false =>
      rw [hc, if_neg (by simp), List.append_nil] at hps
      rw [hc, if_neg (by simp), Int.add_zero] at c2
      rw [hc] at hbi
      have e3 : (bitS .and .i64 (set.fdiv (2 ^ (min i IntKind.i64.bits))) 1 = 1) = False := eq_false (of_decide_eq_false hbi.symm)
      have hnil2 : az = none → pick p (i + 1) = [] := fun h => by rw [hps]; exact hnil h
      have hpl : (pick p i).length = (pick p (i + 1)).length := by rw [hps]
      refine ⟨?_⟩
      simp (config := { maxSteps := 4000000 }) only [↓sx0, ↓sx1, ↓sx2, ↓sx3, ↓sx4, ↓sx5, ↓sx6, sx0, sx1, sx2, sx3, sx4, sx5, sx6, tf10, ev3_hold, sxo, sxc, sxp, sxq, sxr, sxs, sxl, sxm, Int.reduceBEq, Int.reduceBNe, Int.reduceLT, Int.reduceLE, Int.reduceEq, Int.reduceGT, Int.reduceGE, Int.reduceToNat, ↓reduceIte, List.reduceReplicate, Nat.reduceAdd, Nat.reduceSub, Nat.reduceMul, Nat.reduceLT, Nat.reduceLeDiff, Nat.reduceBEq, Nat.reduceEqDiff, e7]
      refine amid (at_n (hr _) clc_len (by omega) hu fun ad => ?_)
      simp (config := { maxSteps := 4000000 }) only [↓sx0, ↓sx1, ↓sx2, ↓sx3, ↓sx4, ↓sx5, ↓sx6, sx0, sx1, sx2, sx3, sx4, sx5, sx6, tf10, ev3_hold, sxo, sxc, sxp, sxq, sxr, sxs, sxl, sxm, Int.reduceBEq, Int.reduceBNe, Int.reduceLT, Int.reduceLE, Int.reduceEq, Int.reduceGT, Int.reduceGE, Int.reduceToNat, ↓reduceIte, List.reduceReplicate, Nat.reduceAdd, Nat.reduceSub, Nat.reduceMul, Nat.reduceLT, Nat.reduceLeDiff, Nat.reduceBEq, Nat.reduceEqDiff, hclv, hb]
      refine at_f (hr _) clc_len hu (o := 5) (x := I x.seats) rfl fun ad2 => ?_
      simp (config := { maxSteps := 4000000 }) only [↓sx0, ↓sx1, ↓sx2, ↓sx3, ↓sx4, ↓sx5, ↓sx6, sx0, sx1, sx2, sx3, sx4, sx5, sx6, tf10, ev3_hold, sxo, sxc, sxp, sxq, sxr, sxs, sxl, sxm, Int.reduceBEq, Int.reduceBNe, Int.reduceLT, Int.reduceLE, Int.reduceEq, Int.reduceGT, Int.reduceGE, Int.reduceToNat, ↓reduceIte, List.reduceReplicate, Nat.reduceAdd, Nat.reduceSub, Nat.reduceMul, Nat.reduceLT, Nat.reduceLeDiff, Nat.reduceBEq, Nat.reduceEqDiff, w1, e8, e9, e3]
      exact ⟨by omega, (i + 1, az, cz), _, by simp only [← hpl, c2, and_self], HImp.refl _ _, ⟨⟨by simp only []; omega, hall2⟩, hnil2, by simp only [hps]⟩, by simp only []; omega⟩
    | true =>
      rw [hc, if_pos rfl] at hps
      rw [hc, if_pos rfl] at c2
      rw [hc] at hbi
      have e3 : (bitS .and .i64 (set.fdiv (2 ^ (min i IntKind.i64.bits))) 1 = 1) = True := eq_true (of_decide_eq_true hbi.symm)
      have hpl : (pick p i).length + 1 = (pick p (i + 1)).length := by rw [hps, List.length_append, List.length_singleton]
      have hpb : (pick p i).length ≤ i := sub_len (pick_sub p i)
      have w2 : wr (M i + x.seats) = M (i + 1) := by rw [← c2]; exact wrap_id (by omega)
      refine ⟨?_⟩
      simp (config := { maxSteps := 4000000 }) only [↓sx0, ↓sx1, ↓sx2, ↓sx3, ↓sx4, ↓sx5, ↓sx6, sx0, sx1, sx2, sx3, sx4, sx5, sx6, tf10, ev3_hold, sxo, sxc, sxp, sxq, sxr, sxs, sxl, sxm, Int.reduceBEq, Int.reduceBNe, Int.reduceLT, Int.reduceLE, Int.reduceEq, Int.reduceGT, Int.reduceGE, Int.reduceToNat, ↓reduceIte, List.reduceReplicate, Nat.reduceAdd, Nat.reduceSub, Nat.reduceMul, Nat.reduceLT, Nat.reduceLeDiff, Nat.reduceBEq, Nat.reduceEqDiff, e7]
      refine amid (at_n (hr _) clc_len (by omega) hu fun ad => ?_)
      simp (config := { maxSteps := 4000000 }) only [↓sx0, ↓sx1, ↓sx2, ↓sx3, ↓sx4, ↓sx5, ↓sx6, sx0, sx1, sx2, sx3, sx4, sx5, sx6, tf10, ev3_hold, sxo, sxc, sxp, sxq, sxr, sxs, sxl, sxm, Int.reduceBEq, Int.reduceBNe, Int.reduceLT, Int.reduceLE, Int.reduceEq, Int.reduceGT, Int.reduceGE, Int.reduceToNat, ↓reduceIte, List.reduceReplicate, Nat.reduceAdd, Nat.reduceSub, Nat.reduceMul, Nat.reduceLT, Nat.reduceLeDiff, Nat.reduceBEq, Nat.reduceEqDiff, hclv, hb]
      refine at_f (hr _) clc_len hu (o := 5) (x := I x.seats) rfl fun ad2 => ?_
      simp (config := { maxSteps := 4000000 }) only [↓sx0, ↓sx1, ↓sx2, ↓sx3, ↓sx4, ↓sx5, ↓sx6, sx0, sx1, sx2, sx3, sx4, sx5, sx6, tf10, ev3_hold, sxo, sxc, sxp, sxq, sxr, sxs, sxl, sxm, Int.reduceBEq, Int.reduceBNe, Int.reduceLT, Int.reduceLE, Int.reduceEq, Int.reduceGT, Int.reduceGE, Int.reduceToNat, ↓reduceIte, List.reduceReplicate, Nat.reduceAdd, Nat.reduceSub, Nat.reduceMul, Nat.reduceLT, Nat.reduceLeDiff, Nat.reduceBEq, Nat.reduceEqDiff, w1, e9, e3]
      refine ⟨by omega, ?_⟩
      intro b4
      refine app_one (l := pick p i) (i : Int) (HImp.refl _ _) i1_len i1_one (by omega) fun ad3 c3 => ?_
      rw [← hps, hpl]
      simp (config := { maxSteps := 4000000 }) only [↓sx0, ↓sx1, ↓sx2, ↓sx3, ↓sx4, ↓sx5, ↓sx6, sx0, sx1, sx2, sx3, sx4, sx5, sx6, tf10, ev3_hold, sxo, sxc, sxp, sxq, sxr, sxs, sxl, sxm, Int.reduceBEq, Int.reduceBNe, Int.reduceLT, Int.reduceLE, Int.reduceEq, Int.reduceGT, Int.reduceGE, Int.reduceToNat, ↓reduceIte, List.reduceReplicate, Nat.reduceAdd, Nat.reduceSub, Nat.reduceMul, Nat.reduceLT, Nat.reduceLeDiff, Nat.reduceBEq, Nat.reduceEqDiff]
      refine at_f (hr _) clc_len hu (o := 5) (x := I x.seats) rfl fun ad2 => ?_
      simp (config := { maxSteps := 4000000 }) only [↓sx0, ↓sx1, ↓sx2, ↓sx3, ↓sx4, ↓sx5, ↓sx6, sx0, sx1, sx2, sx3, sx4, sx5, sx6, tf10, ev3_hold, sxo, sxc, sxp, sxq, sxr, sxs, sxl, sxm, Int.reduceBEq, Int.reduceBNe, Int.reduceLT, Int.reduceLE, Int.reduceEq, Int.reduceGT, Int.reduceGE, Int.reduceToNat, ↓reduceIte, List.reduceReplicate, Nat.reduceAdd, Nat.reduceSub, Nat.reduceMul, Nat.reduceLT, Nat.reduceLeDiff, Nat.reduceBEq, Nat.reduceEqDiff, w2, e8]
      exact ⟨(i + 1, some ad3, c3), _, ⟨rfl, rfl, rfl, rfl⟩, HImp.refl _ _, ⟨⟨by simp only []; omega, hall2⟩, fun h => (by cases h), rfl⟩, by simp only []; omega⟩
  subst hin
  rw [List.take_length] at hall
  have hgood : ∀ b ∈ cs, clsB b = true := fun b hb => List.all_eq_true.1 hall b hb
  have hE : boardE cs people = 0 := by
    unfold boardE
    rw [if_neg h1, if_neg, if_neg h2]
    rw [Bool.not_eq_true, List.any_eq_false]
    intro b hb
    unfold badC
    rw [hgood b hb]
    simp
  have hfact := hfa hE
  have hSs : seatsL cs (idx cs.length) = A cs.length := by
    unfold seatsL
    rw [seats_sum cs _ (Nat.le_refl _), hAA]
  have hpsub := pick_sub p cs.length
  have hMl := hM cs.length
  obtain ⟨S, hS⟩ : ∃ S, pick p cs.length = S := ⟨_, rfl⟩
  rw [hS] at hnil hpsub hMl
  have e7 : ((cs.length : Int) < (cs.length : Int)) = False := eq_false (by omega)
  have hSl := sub_len hpsub
  rw [hS]
  refine ⟨?_⟩
  simp (config := { maxSteps := 4000000 }) only [↓sx0, ↓sx1, ↓sx2, ↓sx3, ↓sx4, ↓sx5, ↓sx6, sx0, sx1, sx2, sx3, sx4, sx5, sx6, tf10, ev3_hold, sxo, sxc, sxp, sxq, sxr, sxs, sxl, sxm, Int.reduceBEq, Int.reduceBNe, Int.reduceLT, Int.reduceLE, Int.reduceEq, Int.reduceGT, Int.reduceGE, Int.reduceToNat, ↓reduceIte, List.reduceReplicate, Nat.reduceAdd, Nat.reduceSub, Nat.reduceMul, Nat.reduceLT, Nat.reduceLeDiff, Nat.reduceBEq, Nat.reduceEqDiff, e7, dn]
  refine CallOb.pureH (fun w' hp => hb1 w' (hs.hp (fun _ _ => id) hp)) ?_
  rintro q N1 hq1
  obtain ⟨a1, c1, rfl, _, hv1⟩ := hb3 _ _ hq1
  rcases hfact with ⟨hE3, rfl, hless⟩ | ⟨hE0, hsub, hge, hmin⟩
  · subst hE3
    have h3 := hless (idx cs.length) (List.Sublist.refl _)
    rw [hSs] at h3
    have e3 : (A cs.length < people) = True := eq_true h3
    refine ⟨?_⟩
    simp (config := { maxSteps := 4000000 }) only [↓sx0, ↓sx1, ↓sx2, ↓sx3, ↓sx4, ↓sx5, ↓sx6, sx0, sx1, sx2, sx3, sx4, sx5, sx6, tf10, ev3_hold, sxo, sxc, sxp, sxq, sxr, sxs, sxl, sxm, Int.reduceBEq, Int.reduceBNe, Int.reduceLT, Int.reduceLE, Int.reduceEq, Int.reduceGT, Int.reduceGE, Int.reduceToNat, ↓reduceIte, List.reduceReplicate, Nat.reduceAdd, Nat.reduceSub, Nat.reduceMul, Nat.reduceLT, Nat.reduceLeDiff, Nat.reduceBEq, Nat.reduceEqDiff, e3, dn]
    refine CallOb.pureH (fun w' hp => hwk _ w' hp) ?_
    rintro rW NW rfl
    refine ⟨?_⟩
    simp (config := { maxSteps := 4000000 }) only [↓sx0, ↓sx1, ↓sx2, ↓sx3, ↓sx4, ↓sx5, ↓sx6, sx0, sx1, sx2, sx3, sx4, sx5, sx6, tf10, ev3_hold, sxo, sxc, sxp, sxq, sxr, sxs, sxl, sxm, Int.reduceBEq, Int.reduceBNe, Int.reduceLT, Int.reduceLE, Int.reduceEq, Int.reduceGT, Int.reduceGE, Int.reduceToNat, ↓reduceIte, List.reduceReplicate, Nat.reduceAdd, Nat.reduceSub, Nat.reduceMul, Nat.reduceLT, Nat.reduceLeDiff, Nat.reduceBEq, Nat.reduceEqDiff]
  subst hE0
  have hXl := sub_len hsub
  have hXin : ∀ j ∈ X, 0 ≤ j ∧ j < cs.length := fun j hj => idx_mem.1 (hsub.subset hj)
  have hmS : M cs.length ≥ people → befB S X = false := fun h => hmin S hpsub (by rw [hMl]; exact h)
  have hsx := fun i j hij hj => sorted_getElem hsub (i := i) (j := j) hij hj
  obtain ⟨B, hB⟩ : ∃ B : Nat → Int, ∀ i, sumB (seatAt cs) (X.take i) = B i := ⟨_, fun _ => rfl⟩
  have bb := fun i => sumB_bound (seatAt cs) 40 (X.take i) fun y _ => seatAt_bound hgood y
  have bc : ∀ i, (X.take i).length * 40 ≤ 10 * 40 := fun i => Nat.mul_le_mul_right 40 (by rw [List.length_take]; omega)
  have hBs : ∀ i y, X[i]? = some y → B (i + 1) = B i + seatAt cs y := fun i y h => by rw [← hB, ← hB, sumB_take _ h]
  have hB0 : B 0 = 0 := by rw [← hB]; rfl
  have hBl : B X.length = seatsL cs X := by rw [← hB, List.take_length]; rfl
  simp only [hB] at bb
  rw [← hBl] at hge
  obtain ⟨HB, hHB⟩ : ∃ HB, N1 ++ [HO.row (.slice az S.length cz) 3 1 (ints S)] = HB := ⟨_, rfl⟩
  have hrX := hv1 ⟨w, fun _ => False⟩ HB (by rw [← hHB]; simp +contextual)
  have hrS := row_rdv (w0 := ⟨w, fun _ => False⟩) (H := HB) (v := .slice az S.length cz) (E := 3) (sz := 1) (xs := ints S) (by rw [← hHB]; simp) ⟨_, _, _, rfl, by rw [cat_len i1_len], fun h => by rw [hnil h]; rfl⟩
  rw [hHB]
  refine ⟨?_⟩
  simp (config := { maxSteps := 4000000 }) only [↓sx0, ↓sx1, ↓sx2, ↓sx3, ↓sx4, ↓sx5, ↓sx6, sx0, sx1, sx2, sx3, sx4, sx5, sx6, tf10, ev3_hold, sxo, sxc, sxp, sxq, sxr, sxs, sxl, sxm, Int.reduceBEq, Int.reduceBNe, Int.reduceLT, Int.reduceLE, Int.reduceEq, Int.reduceGT, Int.reduceGE, Int.reduceToNat, ↓reduceIte, List.reduceReplicate, Nat.reduceAdd, Nat.reduceSub, Nat.reduceMul, Nat.reduceLT, Nat.reduceLeDiff, Nat.reduceBEq, Nat.reduceEqDiff]
  refine loop_constH HB (HImp.refl _ _) [(6, 7), (14, 14), (79, 124)] (fun i : Nat => [(7, I (B i)), (14, I i)]) (fun i H1 => i ≤ X.length ∧ H1 = HB) (fun i => X.length - i) 0 ?_ ⟨Nat.zero_le _, rfl⟩ ?_
  · rw [hB0]
    simp (config := { maxSteps := 4000000 }) only [↓sx0, ↓sx1, ↓sx2, ↓sx3, ↓sx4, ↓sx5, ↓sx6, sx0, sx1, sx2, sx3, sx4, sx5, sx6, tf10, ev3_hold, sxo, sxc, sxp, sxq, sxr, sxs, sxl, sxm, Int.reduceBEq, Int.reduceBNe, Int.reduceLT, Int.reduceLE, Int.reduceEq, Int.reduceGT, Int.reduceGE, Int.reduceToNat, ↓reduceIte, List.reduceReplicate, Nat.reduceAdd, Nat.reduceSub, Nat.reduceMul, Nat.reduceLT, Nat.reduceLeDiff, Nat.reduceBEq, Nat.reduceEqDiff]
    try simp
  rintro i H1 g2 ⟨hi, hH1⟩
  have hH2 := hH1.symm
  subst hH2
  by_cases hin : i = X.length
  case neg =>
    have f7 : ((i : Int) < (X.length : Int)) = True := eq_true (by omega)
    have f8 : wr (i + 1) = ((i + 1 : Nat) : Int) := (wrap_id (by omega)).trans (by omega)
    have hil : i < X.length := by omega
    have hu := List.getElem?_eq_getElem hil
    obtain ⟨y, hy⟩ : ∃ y, X[i] = y := ⟨_, rfl⟩
    have hyin := hXin y (by rw [← hy]; exact List.getElem_mem hil)
    obtain ⟨y, rfl⟩ : ∃ k : Nat, y = k := ⟨y.toNat, by omega⟩
    rw [hy] at hu
    have hyl : y < cs.length := by omega
    have hub := List.getElem?_eq_getElem hyl
    obtain ⟨z, hz⟩ : ∃ z, cs[y] = z := ⟨_, rfl⟩
    rw [hz] at hub
    have hsa : seatAt cs y = z.seats := by unfold seatAt; rw [Int.toNat_natCast, hub]
    have k1 := hBs i y hu
    have d0 := seatAt_bound hgood y
    rw [hsa] at k1 d0
    have d1 := bb i
    have d3 := bc i
    have w3 : wr (B i + z.seats) = B (i + 1) := by rw [k1]; exact wrap_id (by omega)
    have q1 : ((y : Int) < 0) = False := eq_false (by omega)
    have q2 : ((y : Int) ≥ (cs.length : Int)) = False := eq_false (by omega)
    by_cases h0 : i = 0
    · have q3 : ((i : Int) > 0) = False := eq_false (by omega)
      refine ⟨?_⟩
      simp (config := { maxSteps := 4000000 }) only [↓sx0, ↓sx1, ↓sx2, ↓sx3, ↓sx4, ↓sx5, ↓sx6, sx0, sx1, sx2, sx3, sx4, sx5, sx6, tf10, ev3_hold, sxo, sxc, sxp, sxq, sxr, sxs, sxl, sxm, Int.reduceBEq, Int.reduceBNe, Int.reduceLT, Int.reduceLE, Int.reduceEq, Int.reduceGT, Int.reduceGE, Int.reduceToNat, ↓reduceIte, List.reduceReplicate, Nat.reduceAdd, Nat.reduceSub, Nat.reduceMul, Nat.reduceLT, Nat.reduceLeDiff, Nat.reduceBEq, Nat.reduceEqDiff, f7]
      refine amid (at_1 hrX i1_len hu rfl fun ad => ?_)
      simp (config := { maxSteps := 4000000 }) only [↓sx0, ↓sx1, ↓sx2, ↓sx3, ↓sx4, ↓sx5, ↓sx6, sx0, sx1, sx2, sx3, sx4, sx5, sx6, tf10, ev3_hold, sxo, sxc, sxp, sxq, sxr, sxs, sxl, sxm, Int.reduceBEq, Int.reduceBNe, Int.reduceLT, Int.reduceLE, Int.reduceEq, Int.reduceGT, Int.reduceGE, Int.reduceToNat, ↓reduceIte, List.reduceReplicate, Nat.reduceAdd, Nat.reduceSub, Nat.reduceMul, Nat.reduceLT, Nat.reduceLeDiff, Nat.reduceBEq, Nat.reduceEqDiff, q1]
      refine at_1 hrX i1_len hu rfl fun ad => ?_
      simp (config := { maxSteps := 4000000 }) only [↓sx0, ↓sx1, ↓sx2, ↓sx3, ↓sx4, ↓sx5, ↓sx6, sx0, sx1, sx2, sx3, sx4, sx5, sx6, tf10, ev3_hold, sxo, sxc, sxp, sxq, sxr, sxs, sxl, sxm, Int.reduceBEq, Int.reduceBNe, Int.reduceLT, Int.reduceLE, Int.reduceEq, Int.reduceGT, Int.reduceGE, Int.reduceToNat, ↓reduceIte, List.reduceReplicate, Nat.reduceAdd, Nat.reduceSub, Nat.reduceMul, Nat.reduceLT, Nat.reduceLeDiff, Nat.reduceBEq, Nat.reduceEqDiff, q2, q3]
      refine at_1 hrX i1_len hu rfl fun ad => ?_
      simp (config := { maxSteps := 4000000 }) only [↓sx0, ↓sx1, ↓sx2, ↓sx3, ↓sx4, ↓sx5, ↓sx6, sx0, sx1, sx2, sx3, sx4, sx5, sx6, tf10, ev3_hold, sxo, sxc, sxp, sxq, sxr, sxs, sxl, sxm, Int.reduceBEq, Int.reduceBNe, Int.reduceLT, Int.reduceLE, Int.reduceEq, Int.reduceGT, Int.reduceGE, Int.reduceToNat, ↓reduceIte, List.reduceReplicate, Nat.reduceAdd, Nat.reduceSub, Nat.reduceMul, Nat.reduceLT, Nat.reduceLeDiff, Nat.reduceBEq, Nat.reduceEqDiff]
      refine at_f (hr _) clc_len hub (o := 5) (x := I z.seats) rfl fun ad2 => ?_
      simp (config := { maxSteps := 4000000 }) only [↓sx0, ↓sx1, ↓sx2, ↓sx3, ↓sx4, ↓sx5, ↓sx6, sx0, sx1, sx2, sx3, sx4, sx5, sx6, tf10, ev3_hold, sxo, sxc, sxp, sxq, sxr, sxs, sxl, sxm, Int.reduceBEq, Int.reduceBNe, Int.reduceLT, Int.reduceLE, Int.reduceEq, Int.reduceGT, Int.reduceGE, Int.reduceToNat, ↓reduceIte, List.reduceReplicate, Nat.reduceAdd, Nat.reduceSub, Nat.reduceMul, Nat.reduceLT, Nat.reduceLeDiff, Nat.reduceBEq, Nat.reduceEqDiff, w3, f8]
      exact ⟨i + 1, _, ⟨rfl, rfl⟩, HImp.refl _ _, ⟨by omega, rfl⟩, by omega⟩
    · have q3 : ((i : Int) > 0) = True := eq_true (by omega)
      have f9 : wr ((i : Int) - 1) = ((i - 1 : Nat) : Int) := (wrap_id (by omega)).trans (by omega)
      have hu2 : X[i - 1]? = some X[i - 1] := List.getElem?_eq_getElem (by omega)
      have hlt := hsx (i - 1) i (by omega) hil
      obtain ⟨y2, hy2⟩ : ∃ y2, X[i - 1] = y2 := ⟨_, rfl⟩
      rw [hy2] at hu2 hlt
      rw [hy] at hlt
      have q4 : ((y : Int) ≤ y2) = False := eq_false (by omega)
      refine ⟨?_⟩
      simp (config := { maxSteps := 4000000 }) only [↓sx0, ↓sx1, ↓sx2, ↓sx3, ↓sx4, ↓sx5, ↓sx6, sx0, sx1, sx2, sx3, sx4, sx5, sx6, tf10, ev3_hold, sxo, sxc, sxp, sxq, sxr, sxs, sxl, sxm, Int.reduceBEq, Int.reduceBNe, Int.reduceLT, Int.reduceLE, Int.reduceEq, Int.reduceGT, Int.reduceGE, Int.reduceToNat, ↓reduceIte, List.reduceReplicate, Nat.reduceAdd, Nat.reduceSub, Nat.reduceMul, Nat.reduceLT, Nat.reduceLeDiff, Nat.reduceBEq, Nat.reduceEqDiff, f7]
      refine amid (at_1 hrX i1_len hu rfl fun ad => ?_)
      simp (config := { maxSteps := 4000000 }) only [↓sx0, ↓sx1, ↓sx2, ↓sx3, ↓sx4, ↓sx5, ↓sx6, sx0, sx1, sx2, sx3, sx4, sx5, sx6, tf10, ev3_hold, sxo, sxc, sxp, sxq, sxr, sxs, sxl, sxm, Int.reduceBEq, Int.reduceBNe, Int.reduceLT, Int.reduceLE, Int.reduceEq, Int.reduceGT, Int.reduceGE, Int.reduceToNat, ↓reduceIte, List.reduceReplicate, Nat.reduceAdd, Nat.reduceSub, Nat.reduceMul, Nat.reduceLT, Nat.reduceLeDiff, Nat.reduceBEq, Nat.reduceEqDiff, q1]
      refine at_1 hrX i1_len hu rfl fun ad => ?_
      simp (config := { maxSteps := 4000000 }) only [↓sx0, ↓sx1, ↓sx2, ↓sx3, ↓sx4, ↓sx5, ↓sx6, sx0, sx1, sx2, sx3, sx4, sx5, sx6, tf10, ev3_hold, sxo, sxc, sxp, sxq, sxr, sxs, sxl, sxm, Int.reduceBEq, Int.reduceBNe, Int.reduceLT, Int.reduceLE, Int.reduceEq, Int.reduceGT, Int.reduceGE, Int.reduceToNat, ↓reduceIte, List.reduceReplicate, Nat.reduceAdd, Nat.reduceSub, Nat.reduceMul, Nat.reduceLT, Nat.reduceLeDiff, Nat.reduceBEq, Nat.reduceEqDiff, q2, q3]
      refine at_1 hrX i1_len hu rfl fun ad => ?_
      simp (config := { maxSteps := 4000000 }) only [↓sx0, ↓sx1, ↓sx2, ↓sx3, ↓sx4, ↓sx5, ↓sx6, sx0, sx1, sx2, sx3, sx4, sx5, sx6, tf10, ev3_hold, sxo, sxc, sxp, sxq, sxr, sxs, sxl, sxm, Int.reduceBEq, Int.reduceBNe, Int.reduceLT, Int.reduceLE, Int.reduceEq, Int.reduceGT, Int.reduceGE, Int.reduceToNat, ↓reduceIte, List.reduceReplicate, Nat.reduceAdd, Nat.reduceSub, Nat.reduceMul, Nat.reduceLT, Nat.reduceLeDiff, Nat.reduceBEq, Nat.reduceEqDiff, f9]
      refine at_1 hrX i1_len hu2 rfl fun ad => ?_
      simp (config := { maxSteps := 4000000 }) only [↓sx0, ↓sx1, ↓sx2, ↓sx3, ↓sx4, ↓sx5, ↓sx6, sx0, sx1, sx2, sx3, sx4, sx5, sx6, tf10, ev3_hold, sxo, sxc, sxp, sxq, sxr, sxs, sxl, sxm, Int.reduceBEq, Int.reduceBNe, Int.reduceLT, Int.reduceLE, Int.reduceEq, Int.reduceGT, Int.reduceGE, Int.reduceToNat, ↓reduceIte, List.reduceReplicate, Nat.reduceAdd, Nat.reduceSub, Nat.reduceMul, Nat.reduceLT, Nat.reduceLeDiff, Nat.reduceBEq, Nat.reduceEqDiff, q4]
      refine at_1 hrX i1_len hu rfl fun ad => ?_
      simp (config := { maxSteps := 4000000 }) only [↓sx0, ↓sx1, ↓sx2, ↓sx3, ↓sx4, ↓sx5, ↓sx6, sx0, sx1, sx2, sx3, sx4, sx5, sx6, tf10, ev3_hold, sxo, sxc, sxp, sxq, sxr, sxs, sxl, sxm, Int.reduceBEq, Int.reduceBNe, Int.reduceLT, Int.reduceLE, Int.reduceEq, Int.reduceGT, Int.reduceGE, Int.reduceToNat, ↓reduceIte, List.reduceReplicate, Nat.reduceAdd, Nat.reduceSub, Nat.reduceMul, Nat.reduceLT, Nat.reduceLeDiff, Nat.reduceBEq, Nat.reduceEqDiff]
      refine at_f (hr _) clc_len hub (o := 5) (x := I z.seats) rfl fun ad2 => ?_
      simp (config := { maxSteps := 4000000 }) only [↓sx0, ↓sx1, ↓sx2, ↓sx3, ↓sx4, ↓sx5, ↓sx6, sx0, sx1, sx2, sx3, sx4, sx5, sx6, tf10, ev3_hold, sxo, sxc, sxp, sxq, sxr, sxs, sxl, sxm, Int.reduceBEq, Int.reduceBNe, Int.reduceLT, Int.reduceLE, Int.reduceEq, Int.reduceGT, Int.reduceGE, Int.reduceToNat, ↓reduceIte, List.reduceReplicate, Nat.reduceAdd, Nat.reduceSub, Nat.reduceMul, Nat.reduceLT, Nat.reduceLeDiff, Nat.reduceBEq, Nat.reduceEqDiff, w3, f8]
      exact ⟨i + 1, _, ⟨rfl, rfl⟩, HImp.refl _ _, ⟨by omega, rfl⟩, by omega⟩
  subst hin
  have f7 : ((X.length : Int) < (X.length : Int)) = False := eq_false (by omega)
  have f8 : (B X.length < people) = False := eq_false (by omega)
  by_cases hmp : M cs.length < people
  · have q1 : (M cs.length < people) = True := eq_true hmp
    refine ⟨?_⟩
    simp (config := { maxSteps := 4000000 }) only [↓sx0, ↓sx1, ↓sx2, ↓sx3, ↓sx4, ↓sx5, ↓sx6, sx0, sx1, sx2, sx3, sx4, sx5, sx6, tf10, ev3_hold, sxo, sxc, sxp, sxq, sxr, sxs, sxl, sxm, Int.reduceBEq, Int.reduceBNe, Int.reduceLT, Int.reduceLE, Int.reduceEq, Int.reduceGT, Int.reduceGE, Int.reduceToNat, ↓reduceIte, List.reduceReplicate, Nat.reduceAdd, Nat.reduceSub, Nat.reduceMul, Nat.reduceLT, Nat.reduceLeDiff, Nat.reduceBEq, Nat.reduceEqDiff, f7, f8, q1, dn]
    refine CallOb.pureH (fun w' hp => hwk _ w' hp) ?_
    rintro rW NW rfl
    refine ⟨?_⟩
    simp (config := { maxSteps := 4000000 }) only [↓sx0, ↓sx1, ↓sx2, ↓sx3, ↓sx4, ↓sx5, ↓sx6, sx0, sx1, sx2, sx3, sx4, sx5, sx6, tf10, ev3_hold, sxo, sxc, sxp, sxq, sxr, sxs, sxl, sxm, Int.reduceBEq, Int.reduceBNe, Int.reduceLT, Int.reduceLE, Int.reduceEq, Int.reduceGT, Int.reduceGE, Int.reduceToNat, ↓reduceIte, List.reduceReplicate, Nat.reduceAdd, Nat.reduceSub, Nat.reduceMul, Nat.reduceLT, Nat.reduceLeDiff, Nat.reduceBEq, Nat.reduceEqDiff]
  have q1 : (M cs.length < people) = False := eq_false hmp
  have hbef := hmS (by omega)
  unfold befB at hbef
  by_cases hlen : S.length = X.length
  case neg =>
    rw [if_neg hlen, decide_eq_false_iff_not] at hbef
    have q2 : ((S.length : Int) = (X.length : Int)) = False := eq_false (by omega)
    have q3 : ((S.length : Int) > (X.length : Int)) = True := eq_true (by omega)
    refine ⟨?_⟩
    simp (config := { maxSteps := 4000000 }) only [↓sx0, ↓sx1, ↓sx2, ↓sx3, ↓sx4, ↓sx5, ↓sx6, sx0, sx1, sx2, sx3, sx4, sx5, sx6, tf10, ev3_hold, sxo, sxc, sxp, sxq, sxr, sxs, sxl, sxm, Int.reduceBEq, Int.reduceBNe, Int.reduceLT, Int.reduceLE, Int.reduceEq, Int.reduceGT, Int.reduceGE, Int.reduceToNat, ↓reduceIte, List.reduceReplicate, Nat.reduceAdd, Nat.reduceSub, Nat.reduceMul, Nat.reduceLT, Nat.reduceLeDiff, Nat.reduceBEq, Nat.reduceEqDiff, f7, f8, q1, q2, q3, dn]
    refine CallOb.pureH (fun w' hp => hwk _ w' hp) ?_
    rintro rW NW rfl
    refine ⟨?_⟩
    simp (config := { maxSteps := 4000000 }) only [↓sx0, ↓sx1, ↓sx2, ↓sx3, ↓sx4, ↓sx5, ↓sx6, sx0, sx1, sx2, sx3, sx4, sx5, sx6, tf10, ev3_hold, sxo, sxc, sxp, sxq, sxr, sxs, sxl, sxm, Int.reduceBEq, Int.reduceBNe, Int.reduceLT, Int.reduceLE, Int.reduceEq, Int.reduceGT, Int.reduceGE, Int.reduceToNat, ↓reduceIte, List.reduceReplicate, Nat.reduceAdd, Nat.reduceSub, Nat.reduceMul, Nat.reduceLT, Nat.reduceLeDiff, Nat.reduceBEq, Nat.reduceEqDiff]
  rw [if_pos hlen] at hbef
  have q2 : ((S.length : Int) = (X.length : Int)) = True := eq_true (by omega)
  have hrest := fun i hi hq => lex_rest hlen.symm hbef i hi hq
  refine ⟨?_⟩
  simp (config := { maxSteps := 4000000 }) only [↓sx0, ↓sx1, ↓sx2, ↓sx3, ↓sx4, ↓sx5, ↓sx6, sx0, sx1, sx2, sx3, sx4, sx5, sx6, tf10, ev3_hold, sxo, sxc, sxp, sxq, sxr, sxs, sxl, sxm, Int.reduceBEq, Int.reduceBNe, Int.reduceLT, Int.reduceLE, Int.reduceEq, Int.reduceGT, Int.reduceGE, Int.reduceToNat, ↓reduceIte, List.reduceReplicate, Nat.reduceAdd, Nat.reduceSub, Nat.reduceMul, Nat.reduceLT, Nat.reduceLeDiff, Nat.reduceBEq, Nat.reduceEqDiff, f7, f8, q1, q2]
  refine loop_constH HB (HImp.refl _ _) [(6, 6), (15, 15), (145, 171)] (fun i : Nat => [(15, I i)]) (fun i H1 => i ≤ X.length ∧ (∀ j, j < i → X[j]? = S[j]?) ∧ H1 = HB) (fun i => X.length - i) 0 ?_ ⟨Nat.zero_le _, fun j hj => by omega, rfl⟩ ?_
  · simp (config := { maxSteps := 4000000 }) only [↓sx0, ↓sx1, ↓sx2, ↓sx3, ↓sx4, ↓sx5, ↓sx6, sx0, sx1, sx2, sx3, sx4, sx5, sx6, tf10, ev3_hold, sxo, sxc, sxp, sxq, sxr, sxs, sxl, sxm, Int.reduceBEq, Int.reduceBNe, Int.reduceLT, Int.reduceLE, Int.reduceEq, Int.reduceGT, Int.reduceGE, Int.reduceToNat, ↓reduceIte, List.reduceReplicate, Nat.reduceAdd, Nat.reduceSub, Nat.reduceMul, Nat.reduceLT, Nat.reduceLeDiff, Nat.reduceBEq, Nat.reduceEqDiff]
    try simp
  rintro i H1 g3 ⟨hi, hpre, hH1⟩
  have hH2 := hH1.symm
  subst hH2
  by_cases hin : i = X.length
  · have f9 : ((i : Int) < (X.length : Int)) = False := eq_false (by omega)
    refine ⟨?_⟩
    simp (config := { maxSteps := 4000000 }) only [↓sx0, ↓sx1, ↓sx2, ↓sx3, ↓sx4, ↓sx5, ↓sx6, sx0, sx1, sx2, sx3, sx4, sx5, sx6, tf10, ev3_hold, sxo, sxc, sxp, sxq, sxr, sxs, sxl, sxm, Int.reduceBEq, Int.reduceBNe, Int.reduceLT, Int.reduceLE, Int.reduceEq, Int.reduceGT, Int.reduceGE, Int.reduceToNat, ↓reduceIte, List.reduceReplicate, Nat.reduceAdd, Nat.reduceSub, Nat.reduceMul, Nat.reduceLT, Nat.reduceLeDiff, Nat.reduceBEq, Nat.reduceEqDiff, f9, dn]
    refine CallOb.pureH (fun w' hp => hwk _ w' hp) ?_
    rintro rW NW rfl
    refine ⟨?_⟩
    simp (config := { maxSteps := 4000000 }) only [↓sx0, ↓sx1, ↓sx2, ↓sx3, ↓sx4, ↓sx5, ↓sx6, sx0, sx1, sx2, sx3, sx4, sx5, sx6, tf10, ev3_hold, sxo, sxc, sxp, sxq, sxr, sxs, sxl, sxm, Int.reduceBEq, Int.reduceBNe, Int.reduceLT, Int.reduceLE, Int.reduceEq, Int.reduceGT, Int.reduceGE, Int.reduceToNat, ↓reduceIte, List.reduceReplicate, Nat.reduceAdd, Nat.reduceSub, Nat.reduceMul, Nat.reduceLT, Nat.reduceLeDiff, Nat.reduceBEq, Nat.reduceEqDiff]
  have f9 : ((i : Int) < (X.length : Int)) = True := eq_true (by omega)
  have e8 : wr (i + 1) = ((i + 1 : Nat) : Int) := (wrap_id (by omega)).trans (by omega)
  have hil : i < X.length := by omega
  have hil2 : i < S.length := by omega
  have hu := List.getElem?_eq_getElem hil
  have hu2 := List.getElem?_eq_getElem hil2
  have hre := hrest i hi hpre
  rw [List.drop_eq_getElem_cons hil, List.drop_eq_getElem_cons hil2] at hre
  obtain ⟨y, hy⟩ : ∃ y, X[i] = y := ⟨_, rfl⟩
  obtain ⟨z, hz⟩ : ∃ z, S[i] = z := ⟨_, rfl⟩
  rw [hy] at hu
  rw [hz] at hu2
  rw [hy, hz, lexB] at hre
  by_cases hyz : y = z
  · have q3 : (y = z) = True := eq_true hyz
    refine ⟨?_⟩
    simp (config := { maxSteps := 4000000 }) only [↓sx0, ↓sx1, ↓sx2, ↓sx3, ↓sx4, ↓sx5, ↓sx6, sx0, sx1, sx2, sx3, sx4, sx5, sx6, tf10, ev3_hold, sxo, sxc, sxp, sxq, sxr, sxs, sxl, sxm, Int.reduceBEq, Int.reduceBNe, Int.reduceLT, Int.reduceLE, Int.reduceEq, Int.reduceGT, Int.reduceGE, Int.reduceToNat, ↓reduceIte, List.reduceReplicate, Nat.reduceAdd, Nat.reduceSub, Nat.reduceMul, Nat.reduceLT, Nat.reduceLeDiff, Nat.reduceBEq, Nat.reduceEqDiff, f9]
    refine amid (at_1 hrX i1_len hu rfl fun ad => ?_)
    simp (config := { maxSteps := 4000000 }) only [↓sx0, ↓sx1, ↓sx2, ↓sx3, ↓sx4, ↓sx5, ↓sx6, sx0, sx1, sx2, sx3, sx4, sx5, sx6, tf10, ev3_hold, sxo, sxc, sxp, sxq, sxr, sxs, sxl, sxm, Int.reduceBEq, Int.reduceBNe, Int.reduceLT, Int.reduceLE, Int.reduceEq, Int.reduceGT, Int.reduceGE, Int.reduceToNat, ↓reduceIte, List.reduceReplicate, Nat.reduceAdd, Nat.reduceSub, Nat.reduceMul, Nat.reduceLT, Nat.reduceLeDiff, Nat.reduceBEq, Nat.reduceEqDiff]
    refine at_1 hrS i1_len hu2 rfl fun ad => ?_
    simp (config := { maxSteps := 4000000 }) only [↓sx0, ↓sx1, ↓sx2, ↓sx3, ↓sx4, ↓sx5, ↓sx6, sx0, sx1, sx2, sx3, sx4, sx5, sx6, tf10, ev3_hold, sxo, sxc, sxp, sxq, sxr, sxs, sxl, sxm, Int.reduceBEq, Int.reduceBNe, Int.reduceLT, Int.reduceLE, Int.reduceEq, Int.reduceGT, Int.reduceGE, Int.reduceToNat, ↓reduceIte, List.reduceReplicate, Nat.reduceAdd, Nat.reduceSub, Nat.reduceMul, Nat.reduceLT, Nat.reduceLeDiff, Nat.reduceBEq, Nat.reduceEqDiff, q3, e8]
    refine ⟨i + 1, _, rfl, HImp.refl _ _, ⟨by omega, fun j hj => ?_, rfl⟩, by omega⟩
    by_cases e : j = i
    · subst e
      rw [hu, hu2, hyz]
    · exact hpre j (by omega)
  rw [if_neg (fun h => hyz h.symm), decide_eq_false_iff_not] at hre
  have q3 : (y = z) = False := eq_false hyz
  have q4 : (y < z) = True := eq_true (by omega)
  refine ⟨?_⟩
  simp (config := { maxSteps := 4000000 }) only [↓sx0, ↓sx1, ↓sx2, ↓sx3, ↓sx4, ↓sx5, ↓sx6, sx0, sx1, sx2, sx3, sx4, sx5, sx6, tf10, ev3_hold, sxo, sxc, sxp, sxq, sxr, sxs, sxl, sxm, Int.reduceBEq, Int.reduceBNe, Int.reduceLT, Int.reduceLE, Int.reduceEq, Int.reduceGT, Int.reduceGE, Int.reduceToNat, ↓reduceIte, List.reduceReplicate, Nat.reduceAdd, Nat.reduceSub, Nat.reduceMul, Nat.reduceLT, Nat.reduceLeDiff, Nat.reduceBEq, Nat.reduceEqDiff, f9]
  refine amid (at_1 hrX i1_len hu rfl fun ad => ?_)
  simp (config := { maxSteps := 4000000 }) only [↓sx0, ↓sx1, ↓sx2, ↓sx3, ↓sx4, ↓sx5, ↓sx6, sx0, sx1, sx2, sx3, sx4, sx5, sx6, tf10, ev3_hold, sxo, sxc, sxp, sxq, sxr, sxs, sxl, sxm, Int.reduceBEq, Int.reduceBNe, Int.reduceLT, Int.reduceLE, Int.reduceEq, Int.reduceGT, Int.reduceGE, Int.reduceToNat, ↓reduceIte, List.reduceReplicate, Nat.reduceAdd, Nat.reduceSub, Nat.reduceMul, Nat.reduceLT, Nat.reduceLeDiff, Nat.reduceBEq, Nat.reduceEqDiff]
  refine at_1 hrS i1_len hu2 rfl fun ad => ?_
  simp (config := { maxSteps := 4000000 }) only [↓sx0, ↓sx1, ↓sx2, ↓sx3, ↓sx4, ↓sx5, ↓sx6, sx0, sx1, sx2, sx3, sx4, sx5, sx6, tf10, ev3_hold, sxo, sxc, sxp, sxq, sxr, sxs, sxl, sxm, Int.reduceBEq, Int.reduceBNe, Int.reduceLT, Int.reduceLE, Int.reduceEq, Int.reduceGT, Int.reduceGE, Int.reduceToNat, ↓reduceIte, List.reduceReplicate, Nat.reduceAdd, Nat.reduceSub, Nat.reduceMul, Nat.reduceLT, Nat.reduceLeDiff, Nat.reduceBEq, Nat.reduceEqDiff, q3]
  refine at_1 hrX i1_len hu rfl fun ad => ?_
  simp (config := { maxSteps := 4000000 }) only [↓sx0, ↓sx1, ↓sx2, ↓sx3, ↓sx4, ↓sx5, ↓sx6, sx0, sx1, sx2, sx3, sx4, sx5, sx6, tf10, ev3_hold, sxo, sxc, sxp, sxq, sxr, sxs, sxl, sxm, Int.reduceBEq, Int.reduceBNe, Int.reduceLT, Int.reduceLE, Int.reduceEq, Int.reduceGT, Int.reduceGE, Int.reduceToNat, ↓reduceIte, List.reduceReplicate, Nat.reduceAdd, Nat.reduceSub, Nat.reduceMul, Nat.reduceLT, Nat.reduceLeDiff, Nat.reduceBEq, Nat.reduceEqDiff]
  refine at_1 hrS i1_len hu2 rfl fun ad => ?_
  simp (config := { maxSteps := 4000000 }) only [↓sx0, ↓sx1, ↓sx2, ↓sx3, ↓sx4, ↓sx5, ↓sx6, sx0, sx1, sx2, sx3, sx4, sx5, sx6, tf10, ev3_hold, sxo, sxc, sxp, sxq, sxr, sxs, sxl, sxm, Int.reduceBEq, Int.reduceBNe, Int.reduceLT, Int.reduceLE, Int.reduceEq, Int.reduceGT, Int.reduceGE, Int.reduceToNat, ↓reduceIte, List.reduceReplicate, Nat.reduceAdd, Nat.reduceSub, Nat.reduceMul, Nat.reduceLT, Nat.reduceLeDiff, Nat.reduceBEq, Nat.reduceEqDiff, q4, dn]
  refine CallOb.pureH (fun w' hp => hwk _ w' hp) ?_
  rintro rW NW rfl
  refine ⟨?_⟩
  simp (config := { maxSteps := 4000000 }) only [↓sx0, ↓sx1, ↓sx2, ↓sx3, ↓sx4, ↓sx5, ↓sx6, sx0, sx1, sx2, sx3, sx4, sx5, sx6, tf10, ev3_hold, sxo, sxc, sxp, sxq, sxr, sxs, sxl, sxm, Int.reduceBEq, Int.reduceBNe, Int.reduceLT, Int.reduceLE, Int.reduceEq, Int.reduceGT, Int.reduceGE, Int.reduceToNat, ↓reduceIte, List.reduceReplicate, Nat.reduceAdd, Nat.reduceSub, Nat.reduceMul, Nat.reduceLT, Nat.reduceLeDiff, Nat.reduceBEq, Nat.reduceEqDiff]
end Go.Proofs.YtcnlbnccbnapbaaDoor
