/- Parts of a proof: the symbolic walk and what it shows of single functions. -/
import Derived.Test.YtcnlbnccbnapbaaDoorR4
import Derived.Test.YtcnlbnccbnapbaaDoorP8
import Derived.Test.YtcnlbnccbnapbaaDoorSpX
import Derived.Test.YtcnlbnccbnapbaaDoorR1
set_option linter.all false
namespace Go.Proofs.YtcnlbnccbnapbaaDoor
open Go.RowKit Go.SX
set_option maxRecDepth 10000
set_option maxHeartbeats 0
set_option linter.unusedSimpArgs false
set_option linter.unusedVariables false
def AnsL (A : List Int × Int) (q : Value) (N : List HO) : Prop := ∃ v, q = .tuple #[v, I A.2] ∧ ∀ (w0 : Base) (H : List HO) (w : World), (∀ h ∈ N, h ∈ H) → Hp w0 H w → Sl w v 1 (ints A.1)
def fstA (P : List Int → Bool) (n : Nat) : List Int × Int := match fstL P n with | none => ([], 3) | some x => (x, 0)
def boardA (cs : List Cls) (people : Int) : List Int × Int := if boardE cs people = 0 then fstA (fun x => decide (seatsL cs x ≥ people)) cs.length else ([], boardE cs people)
def shedA (b : Cls) (l : List (Int × Int × Int)) : List Int × Int := if loadE b l = 0 then fstA (shedB b l) l.length else ([], loadE b l)
theorem AnsL.nil (e : Int) (N : List HO) : AnsL ([], e) (.tuple #[.slice none 0 0, I e]) N := ⟨_, rfl, fun _ _ w _ _ => Sl.nil w 1⟩
theorem FstP.ans {P : List Int → Bool} {n : Nat} {q : Value} {N : List HO} (h : FstP P n q N) : AnsL (fstA P n) q N := by
  unfold fstA
  rcases h with ⟨h1, rfl⟩ | ⟨x, v, h1, rfl, h2⟩
  · rw [h1]
    exact AnsL.nil 3 N
  · rw [h1]
    exact ⟨v, rfl, fun _ _ _ hm hp => h2.hp hm hp⟩
theorem FstR.ans {P : List Int → Bool} {n : Nat} {q : Value} {N : List HO} (h : FstR P n q N) : AnsL (fstA P n) q N := by
  unfold fstA
  rcases h with ⟨h1, rfl⟩ | ⟨x, v, h1, rfl, a, c, rfl, _, h2⟩
  · rw [h1]
    exact AnsL.nil 3 N
  · rw [h1]
    exact ⟨_, rfl, fun _ _ _ hm hp => row_hp (hm _ h2) hp⟩
theorem BoardP.ans {cs : List Cls} {people : Int} {q : Value} {N : List HO} (h : BoardP cs people q N) : AnsL (boardA cs people) q N := by
  unfold boardA
  rcases h with ⟨h1, rfl⟩ | ⟨h1, h2⟩
  · rw [if_neg h1]
    exact AnsL.nil _ N
  · rw [if_pos h1]
    exact h2.ans
theorem RBoardP.ans {cs : List Cls} {people : Int} {q : Value} {N : List HO} (h : RBoardP cs people q N) : AnsL (boardA cs people) q N := by
  unfold boardA
  rcases h with ⟨h1, rfl⟩ | ⟨h1, h2⟩
  · rw [if_neg h1]
    exact AnsL.nil _ N
  · rw [if_pos h1]
    exact h2.ans
theorem ShedP.ans {b : Cls} {l : List (Int × Int × Int)} {q : Value} {N : List HO} (h : ShedP b l q N) : AnsL (shedA b l) q N := by
  unfold shedA
  rcases h with ⟨h1, rfl⟩ | ⟨h1, h2⟩
  · rw [if_neg h1]
    exact AnsL.nil _ N
  · rw [if_pos h1]
    exact h2.ans
theorem RShedP.ans {b : Cls} {l : List (Int × Int × Int)} {q : Value} {N : List HO} (h : RShedP b l q N) : AnsL (shedA b l) q N := by
  unfold shedA
  rcases h with ⟨h1, rfl⟩ | ⟨h1, x, v, h2, rfl, a, c, rfl, _, h3⟩
  · rw [if_neg h1]
    exact AnsL.nil _ N
  · rw [if_pos h1]
    unfold fstA
    rw [h2]
    exact ⟨_, rfl, fun _ _ _ hm hp => row_hp (hm _ h3) hp⟩
theorem fstA_len (P : List Int → Bool) (n : Nat) : (fstA P n).1.length ≤ n := by
  unfold fstA
  cases h : fstL P n with
  | none => exact Nat.zero_le _
  | some x => exact sub_len (fst_some h).1
theorem launchBoards_fn (w : World) (hw : Ways w) (v : Value) (cs : List Cls) (hs : Sl w v 7 (cat clc cs)) (people : Int) :
    SX.Fn Tryd.prog 9 [v, I people] w (fun _ => False) fun r N => r = .bool true := by
  have hwk := fun (H : List HO) w' (hp : Hp ⟨w, fun _ => False⟩ H w') => works5_fn w' (hw.hp hp)
  obtain ⟨a, n, c, rfl⟩ := hs.shape
  have hn := hs.le clc_len (by omega)
  subst hn
  have dn : ∀ (g : Nat) (xs : List Value), det0 g xs = none := fun _ _ => rfl
  by_cases h1 : cs.length > 12
  · have e1 : ((cs.length : Int) > 12) = True := eq_true (by omega)
    refine walk [] [] (det0_ok _ _) Tryd.func9 rfl Tryd.ntmps9 res9 (by kernel_rfl) no_facts ?_
    simp (config := { maxSteps := 4000000 }) only [↓sx0, ↓sx1, ↓sx2, ↓sx3, ↓sx4, ↓sx5, ↓sx6, sx0, sx1, sx2, sx3, sx4, sx5, sx6, tf9, ev3_hold, sxo, sxc, sxp, sxq, sxr, sxs, sxl, sxm, Int.reduceBEq, Int.reduceBNe, Int.reduceLT, Int.reduceLE, Int.reduceEq, Int.reduceGT, Int.reduceGE, Int.reduceToNat, ↓reduceIte, List.reduceReplicate, Nat.reduceAdd, Nat.reduceSub, Nat.reduceMul, Nat.reduceLT, Nat.reduceLeDiff, Nat.reduceBEq, Nat.reduceEqDiff, e1, dn]
    refine CallOb.pureH (fun w' hp => hwk _ w' hp) ?_
    rintro rW NW rfl
    refine ⟨?_⟩
    simp (config := { maxSteps := 4000000 }) only [↓sx0, ↓sx1, ↓sx2, ↓sx3, ↓sx4, ↓sx5, ↓sx6, sx0, sx1, sx2, sx3, sx4, sx5, sx6, tf9, ev3_hold, sxo, sxc, sxp, sxq, sxr, sxs, sxl, sxm, Int.reduceBEq, Int.reduceBNe, Int.reduceLT, Int.reduceLE, Int.reduceEq, Int.reduceGT, Int.reduceGE, Int.reduceToNat, ↓reduceIte, List.reduceReplicate, Nat.reduceAdd, Nat.reduceSub, Nat.reduceMul, Nat.reduceLT, Nat.reduceLeDiff, Nat.reduceBEq, Nat.reduceEqDiff]
  have e1 : ((cs.length : Int) > 12) = False := eq_false (by omega)
  have hAl : (boardA cs people).1.length ≤ 12 := by
    unfold boardA
    split
    · have := fstA_len (fun x => decide (seatsL cs x ≥ people)) cs.length
      omega
    · exact Nat.zero_le _
  have hb1 := fun w' (u : Value) (hu : Sl w' u 7 (cat clc cs)) => board_fn w' u cs people hu (by omega)
  have hb2 := fun w' (u : Value) (hu : Sl w' u 7 (cat clc cs)) => rboard_fn w' u cs people hu (by omega)
  have hb3 := fun (N : List HO) (q : Value) (h : BoardP cs people q N) => h.ans
  have hb4 := fun (N : List HO) (q : Value) (h : RBoardP cs people q N) => h.ans
  obtain ⟨A, hA⟩ : ∃ A, boardA cs people = A := ⟨_, rfl⟩
  rw [hA] at hAl
  simp only [hA] at hb3 hb4
  obtain ⟨X, E⟩ := A
  simp only [] at hAl
  refine walk [] [] (det0_ok _ _) Tryd.func9 rfl Tryd.ntmps9 res9 (by kernel_rfl) no_facts ?_
  simp (config := { maxSteps := 4000000 }) only [↓sx0, ↓sx1, ↓sx2, ↓sx3, ↓sx4, ↓sx5, ↓sx6, sx0, sx1, sx2, sx3, sx4, sx5, sx6, tf9, ev3_hold, sxo, sxc, sxp, sxq, sxr, sxs, sxl, sxm, Int.reduceBEq, Int.reduceBNe, Int.reduceLT, Int.reduceLE, Int.reduceEq, Int.reduceGT, Int.reduceGE, Int.reduceToNat, ↓reduceIte, List.reduceReplicate, Nat.reduceAdd, Nat.reduceSub, Nat.reduceMul, Nat.reduceLT, Nat.reduceLeDiff, Nat.reduceBEq, Nat.reduceEqDiff, e1]
  intro b
  refine app_at (f := clc) (l := []) (m := cs) (HImp.refl _ _) clc_len clc_one (fun w' hp' => hs.hp (fun _ _ => id) hp') (bytes := 56) (by simp only [List.length_nil]; omega) ?_
  intro ad c2 h0
  have hcs : HO.row (.slice ad cs.length c2) 27 7 (cat clc cs) ∈ [HO.row (.slice ad cs.length c2) 27 7 (cat clc cs)] := List.mem_singleton.2 rfl
  rw [List.nil_append, List.length_nil, Nat.zero_add]
  simp (config := { maxSteps := 4000000 }) only [↓sx0, ↓sx1, ↓sx2, ↓sx3, ↓sx4, ↓sx5, ↓sx6, sx0, sx1, sx2, sx3, sx4, sx5, sx6, tf9, ev3_hold, sxo, sxc, sxp, sxq, sxr, sxs, sxl, sxm, Int.reduceBEq, Int.reduceBNe, Int.reduceLT, Int.reduceLE, Int.reduceEq, Int.reduceGT, Int.reduceGE, Int.reduceToNat, ↓reduceIte, List.reduceReplicate, Nat.reduceAdd, Nat.reduceSub, Nat.reduceMul, Nat.reduceLT, Nat.reduceLeDiff, Nat.reduceBEq, Nat.reduceEqDiff, dn]
  refine CallOb.pureH (fun w' hp => hb1 w' _ (row_hp hcs hp)) ?_
  rintro q N1 hq1
  obtain ⟨v1, rfl, hv1⟩ := hb3 _ _ hq1
  refine ⟨?_⟩
  simp (config := { maxSteps := 4000000 }) only [↓sx0, ↓sx1, ↓sx2, ↓sx3, ↓sx4, ↓sx5, ↓sx6, sx0, sx1, sx2, sx3, sx4, sx5, sx6, tf9, ev3_hold, sxo, sxc, sxp, sxq, sxr, sxs, sxl, sxm, Int.reduceBEq, Int.reduceBNe, Int.reduceLT, Int.reduceLE, Int.reduceEq, Int.reduceGT, Int.reduceGE, Int.reduceToNat, ↓reduceIte, List.reduceReplicate, Nat.reduceAdd, Nat.reduceSub, Nat.reduceMul, Nat.reduceLT, Nat.reduceLeDiff, Nat.reduceBEq, Nat.reduceEqDiff, dn]
  refine CallOb.pureH (fun w' hp => hb2 w' _ (hs.hp (fun _ _ => id) hp)) ?_
  rintro q N2 hq2
  obtain ⟨v2, rfl, hv2⟩ := hb4 _ _ hq2
  refine ⟨?_⟩
  simp (config := { maxSteps := 4000000 }) only [↓sx0, ↓sx1, ↓sx2, ↓sx3, ↓sx4, ↓sx5, ↓sx6, sx0, sx1, sx2, sx3, sx4, sx5, sx6, tf9, ev3_hold, sxo, sxc, sxp, sxq, sxr, sxs, sxl, sxm, Int.reduceBEq, Int.reduceBNe, Int.reduceLT, Int.reduceLE, Int.reduceEq, Int.reduceGT, Int.reduceGE, Int.reduceToNat, ↓reduceIte, List.reduceReplicate, Nat.reduceAdd, Nat.reduceSub, Nat.reduceMul, Nat.reduceLT, Nat.reduceLeDiff, Nat.reduceBEq, Nat.reduceEqDiff, dn]
  refine CallOb.pureH (fun w' hp => same5_fn w' _ _ X X (hv1 _ _ _ (by simp +contextual) hp) (hv2 _ _ _ (by simp +contextual) hp) (by omega)) ?_
  rintro r N3 rfl
  have hXX : decide (X = X) = true := by simp
  rw [hXX]
  refine ⟨?_⟩
  simp (config := { maxSteps := 4000000 }) only [↓sx0, ↓sx1, ↓sx2, ↓sx3, ↓sx4, ↓sx5, ↓sx6, sx0, sx1, sx2, sx3, sx4, sx5, sx6, tf9, ev3_hold, sxo, sxc, sxp, sxq, sxr, sxs, sxl, sxm, Int.reduceBEq, Int.reduceBNe, Int.reduceLT, Int.reduceLE, Int.reduceEq, Int.reduceGT, Int.reduceGE, Int.reduceToNat, ↓reduceIte, List.reduceReplicate, Nat.reduceAdd, Nat.reduceSub, Nat.reduceMul, Nat.reduceLT, Nat.reduceLeDiff, Nat.reduceBEq, Nat.reduceEqDiff, dn]
  refine CallOb.pureH (fun w' hp => hwk _ w' hp) ?_
  rintro rW NW rfl
  refine ⟨?_⟩
  simp (config := { maxSteps := 4000000 }) only [↓sx0, ↓sx1, ↓sx2, ↓sx3, ↓sx4, ↓sx5, ↓sx6, sx0, sx1, sx2, sx3, sx4, sx5, sx6, tf9, ev3_hold, sxo, sxc, sxp, sxq, sxr, sxs, sxl, sxm, Int.reduceBEq, Int.reduceBNe, Int.reduceLT, Int.reduceLE, Int.reduceEq, Int.reduceGT, Int.reduceGE, Int.reduceToNat, ↓reduceIte, List.reduceReplicate, Nat.reduceAdd, Nat.reduceSub, Nat.reduceMul, Nat.reduceLT, Nat.reduceLeDiff, Nat.reduceBEq, Nat.reduceEqDiff]
theorem launchRights_fn (w : World) (hw : Ways w) (b : Cls) (v : Value) (l : List (Int × Int × Int)) (hs : Sl w v 3 (cat ldc l)) :
    SX.Fn Tryd.prog 11 [clv b, v] w (fun _ => False) fun r N => r = .bool true := by
  have hwk := fun (H : List HO) w' (hp : Hp ⟨w, fun _ => False⟩ H w') => works5_fn w' (hw.hp hp)
  obtain ⟨a, n, c, rfl⟩ := hs.shape
  have hn := hs.le ldc_len (by omega)
  subst hn
  have dn : ∀ (g : Nat) (xs : List Value), det0 g xs = none := fun _ _ => rfl
  by_cases h1 : l.length > 12
  · have e1 : ((l.length : Int) > 12) = True := eq_true (by omega)
    unfold clv
    refine walk [] [] (det0_ok _ _) Tryd.func11 rfl Tryd.ntmps11 res11 (by kernel_rfl) no_facts ?_
    simp (config := { maxSteps := 4000000 }) only [↓sx0, ↓sx1, ↓sx2, ↓sx3, ↓sx4, ↓sx5, ↓sx6, sx0, sx1, sx2, sx3, sx4, sx5, sx6, tf11, ev3_hold, sxo, sxc, sxp, sxq, sxr, sxs, sxl, sxm, Int.reduceBEq, Int.reduceBNe, Int.reduceLT, Int.reduceLE, Int.reduceEq, Int.reduceGT, Int.reduceGE, Int.reduceToNat, ↓reduceIte, List.reduceReplicate, Nat.reduceAdd, Nat.reduceSub, Nat.reduceMul, Nat.reduceLT, Nat.reduceLeDiff, Nat.reduceBEq, Nat.reduceEqDiff, e1, dn]
    refine CallOb.pureH (fun w' hp => hwk _ w' hp) ?_
    rintro rW NW rfl
    refine ⟨?_⟩
    simp (config := { maxSteps := 4000000 }) only [↓sx0, ↓sx1, ↓sx2, ↓sx3, ↓sx4, ↓sx5, ↓sx6, sx0, sx1, sx2, sx3, sx4, sx5, sx6, tf11, ev3_hold, sxo, sxc, sxp, sxq, sxr, sxs, sxl, sxm, Int.reduceBEq, Int.reduceBNe, Int.reduceLT, Int.reduceLE, Int.reduceEq, Int.reduceGT, Int.reduceGE, Int.reduceToNat, ↓reduceIte, List.reduceReplicate, Nat.reduceAdd, Nat.reduceSub, Nat.reduceMul, Nat.reduceLT, Nat.reduceLeDiff, Nat.reduceBEq, Nat.reduceEqDiff]
  have e1 : ((l.length : Int) > 12) = False := eq_false (by omega)
  have hAl : (shedA b l).1.length ≤ 12 := by
    unfold shedA
    split
    · have := fstA_len (shedB b l) l.length
      omega
    · exact Nat.zero_le _
  have hr1 := fun w' (u : Value) (hu : Sl w' u 3 (cat ldc l)) => rights_fn w' u b l hu (by omega)
  have hr2 := fun w' (u : Value) (hu : Sl w' u 3 (cat ldc l)) => rrights_fn w' u b l hu
  have hb1 := fun w' (u : Value) (hu : Sl w' u 3 (cat ldc l)) => shed_fn w' u b l hu (by omega)
  have hb2 := fun w' (u : Value) (hu : Sl w' u 3 (cat ldc l)) => rshed_fn w' u b l hu
  have hb3 := fun (N : List HO) (q : Value) (h : ShedP b l q N) => h.ans
  have hb4 := fun (N : List HO) (q : Value) (h : RShedP b l q N) => h.ans
  obtain ⟨A, hA⟩ : ∃ A, shedA b l = A := ⟨_, rfl⟩
  rw [hA] at hAl
  simp only [hA] at hb3 hb4
  obtain ⟨X, E⟩ := A
  simp only [] at hAl
  obtain ⟨p, m, e, hV⟩ : ∃ p m e, rightsV b l = .tuple #[.bool p, .bool m, I e] := by
    unfold rightsV
    split
    · exact ⟨_, _, _, rfl⟩
    · exact ⟨_, _, _, rfl⟩
  rw [hV] at hr1 hr2
  have hXX : decide (X = X) = true := by simp
  unfold clv
  unfold clv at hr1 hr2 hb1 hb2
  refine walk [] [] (det0_ok _ _) Tryd.func11 rfl Tryd.ntmps11 res11 (by kernel_rfl) no_facts ?_
  simp (config := { maxSteps := 4000000 }) only [↓sx0, ↓sx1, ↓sx2, ↓sx3, ↓sx4, ↓sx5, ↓sx6, sx0, sx1, sx2, sx3, sx4, sx5, sx6, tf11, ev3_hold, sxo, sxc, sxp, sxq, sxr, sxs, sxl, sxm, Int.reduceBEq, Int.reduceBNe, Int.reduceLT, Int.reduceLE, Int.reduceEq, Int.reduceGT, Int.reduceGE, Int.reduceToNat, ↓reduceIte, List.reduceReplicate, Nat.reduceAdd, Nat.reduceSub, Nat.reduceMul, Nat.reduceLT, Nat.reduceLeDiff, Nat.reduceBEq, Nat.reduceEqDiff, e1]
  intro b1
  refine app_at (f := ldc) (l := []) (m := l) (HImp.refl _ _) ldc_len ldc_one (fun w' hp' => hs.hp (fun _ _ => id) hp') (bytes := 24) (by simp only [List.length_nil]; omega) ?_
  intro ad c2 h0
  obtain ⟨R, hR⟩ : ∃ R, HO.row (.slice ad l.length c2) 77 3 (cat ldc l) = R := ⟨_, rfl⟩
  have hcs : ∀ (H : List HO) w', R ∈ H → Hp ⟨w, fun _ => False⟩ H w' → Sl w' (.slice ad l.length c2) 3 (cat ldc l) := fun H w' hm hp => by rw [← hR] at hm; exact row_hp hm hp
  rw [List.nil_append, List.length_nil, Nat.zero_add, hR]
  simp (config := { maxSteps := 4000000 }) only [↓sx0, ↓sx1, ↓sx2, ↓sx3, ↓sx4, ↓sx5, ↓sx6, sx0, sx1, sx2, sx3, sx4, sx5, sx6, tf11, ev3_hold, sxo, sxc, sxp, sxq, sxr, sxs, sxl, sxm, Int.reduceBEq, Int.reduceBNe, Int.reduceLT, Int.reduceLE, Int.reduceEq, Int.reduceGT, Int.reduceGE, Int.reduceToNat, ↓reduceIte, List.reduceReplicate, Nat.reduceAdd, Nat.reduceSub, Nat.reduceMul, Nat.reduceLT, Nat.reduceLeDiff, Nat.reduceBEq, Nat.reduceEqDiff, dn]
  refine CallOb.pureH (fun w' hp => hr1 w' _ (hcs _ _ (by simp) hp)) ?_
  rintro q N1 rfl
  refine ⟨?_⟩
  simp (config := { maxSteps := 4000000 }) only [↓sx0, ↓sx1, ↓sx2, ↓sx3, ↓sx4, ↓sx5, ↓sx6, sx0, sx1, sx2, sx3, sx4, sx5, sx6, tf11, ev3_hold, sxo, sxc, sxp, sxq, sxr, sxs, sxl, sxm, Int.reduceBEq, Int.reduceBNe, Int.reduceLT, Int.reduceLE, Int.reduceEq, Int.reduceGT, Int.reduceGE, Int.reduceToNat, ↓reduceIte, List.reduceReplicate, Nat.reduceAdd, Nat.reduceSub, Nat.reduceMul, Nat.reduceLT, Nat.reduceLeDiff, Nat.reduceBEq, Nat.reduceEqDiff, dn]
  refine CallOb.pureH (fun w' hp => hr2 w' _ (hs.hp (fun _ _ => id) hp)) ?_
  rintro q N2 rfl
  refine ⟨?_⟩
  simp (config := { maxSteps := 4000000 }) only [↓sx0, ↓sx1, ↓sx2, ↓sx3, ↓sx4, ↓sx5, ↓sx6, sx0, sx1, sx2, sx3, sx4, sx5, sx6, tf11, ev3_hold, sxo, sxc, sxp, sxq, sxr, sxs, sxl, sxm, Int.reduceBEq, Int.reduceBNe, Int.reduceLT, Int.reduceLE, Int.reduceEq, Int.reduceGT, Int.reduceGE, Int.reduceToNat, ↓reduceIte, List.reduceReplicate, Nat.reduceAdd, Nat.reduceSub, Nat.reduceMul, Nat.reduceLT, Nat.reduceLeDiff, Nat.reduceBEq, Nat.reduceEqDiff, dn]
  refine CallOb.pureH (fun w' hp => hb1 w' _ (hcs _ _ (by simp) hp)) ?_
  rintro q N3 hq1
  obtain ⟨v1, rfl, hv1⟩ := hb3 _ _ hq1
  refine ⟨?_⟩
  simp (config := { maxSteps := 4000000 }) only [↓sx0, ↓sx1, ↓sx2, ↓sx3, ↓sx4, ↓sx5, ↓sx6, sx0, sx1, sx2, sx3, sx4, sx5, sx6, tf11, ev3_hold, sxo, sxc, sxp, sxq, sxr, sxs, sxl, sxm, Int.reduceBEq, Int.reduceBNe, Int.reduceLT, Int.reduceLE, Int.reduceEq, Int.reduceGT, Int.reduceGE, Int.reduceToNat, ↓reduceIte, List.reduceReplicate, Nat.reduceAdd, Nat.reduceSub, Nat.reduceMul, Nat.reduceLT, Nat.reduceLeDiff, Nat.reduceBEq, Nat.reduceEqDiff, dn]
  refine CallOb.pureH (fun w' hp => hb2 w' _ (hs.hp (fun _ _ => id) hp)) ?_
  rintro q N4 hq2
  obtain ⟨v2, rfl, hv2⟩ := hb4 _ _ hq2
  refine ⟨?_⟩
  simp (config := { maxSteps := 4000000 }) only [↓sx0, ↓sx1, ↓sx2, ↓sx3, ↓sx4, ↓sx5, ↓sx6, sx0, sx1, sx2, sx3, sx4, sx5, sx6, tf11, ev3_hold, sxo, sxc, sxp, sxq, sxr, sxs, sxl, sxm, Int.reduceBEq, Int.reduceBNe, Int.reduceLT, Int.reduceLE, Int.reduceEq, Int.reduceGT, Int.reduceGE, Int.reduceToNat, ↓reduceIte, List.reduceReplicate, Nat.reduceAdd, Nat.reduceSub, Nat.reduceMul, Nat.reduceLT, Nat.reduceLeDiff, Nat.reduceBEq, Nat.reduceEqDiff, dn]
  refine CallOb.pureH (fun w' hp => same5_fn w' _ _ X X (hv1 _ _ _ (by simp +contextual) hp) (hv2 _ _ _ (by simp +contextual) hp) (by omega)) ?_
  rintro r N5 rfl
  rw [hXX]
  refine ⟨?_⟩
  simp (config := { maxSteps := 4000000 }) only [↓sx0, ↓sx1, ↓sx2, ↓sx3, ↓sx4, ↓sx5, ↓sx6, sx0, sx1, sx2, sx3, sx4, sx5, sx6, tf11, ev3_hold, sxo, sxc, sxp, sxq, sxr, sxs, sxl, sxm, Int.reduceBEq, Int.reduceBNe, Int.reduceLT, Int.reduceLE, Int.reduceEq, Int.reduceGT, Int.reduceGE, Int.reduceToNat, ↓reduceIte, List.reduceReplicate, Nat.reduceAdd, Nat.reduceSub, Nat.reduceMul, Nat.reduceLT, Nat.reduceLeDiff, Nat.reduceBEq, Nat.reduceEqDiff, dn]
  refine CallOb.pureH (fun w' hp => hwk _ w' hp) ?_
  rintro rW NW rfl
  refine ⟨?_⟩
  simp (config := { maxSteps := 4000000 }) only [↓sx0, ↓sx1, ↓sx2, ↓sx3, ↓sx4, ↓sx5, ↓sx6, sx0, sx1, sx2, sx3, sx4, sx5, sx6, tf11, ev3_hold, sxo, sxc, sxp, sxq, sxr, sxs, sxl, sxm, Int.reduceBEq, Int.reduceBNe, Int.reduceLT, Int.reduceLE, Int.reduceEq, Int.reduceGT, Int.reduceGE, Int.reduceToNat, ↓reduceIte, List.reduceReplicate, Nat.reduceAdd, Nat.reduceSub, Nat.reduceMul, Nat.reduceLT, Nat.reduceLeDiff, Nat.reduceBEq, Nat.reduceEqDiff]
end Go.Proofs.YtcnlbnccbnapbaaDoor

namespace Go.Proofs.YtcnlbnccbnapbaaDoor
open Go.RowKit Go.SX Go.ChangeShapes Go.WideShapes Go.ChangeAt
set_option maxRecDepth 100000
theorem flat_load : flat Tryd.prog 4 77 = some [.int .i64, .int .i64, .int .i64] := by kernel_rfl
theorem flat_loads : flat Tryd.prog 4 70 = some [.slice 77] := by kernel_rfl
theorem flat_classes : flat Tryd.prog 4 65 = some [.slice 27] := by kernel_rfl
theorem cells_load : Tryd.prog.cellsOf 77 = 3 := by kernel_rfl
theorem cells_class : Tryd.prog.cellsOf 27 = 7 := by kernel_rfl
theorem loads_of {H : Type} {enc : TypeId × Value → H} {w : World} {base : Nat} {v : Value} {d : DataW H} {ps : List MemPlace} (h : Value.okWide Tryd.prog w .any base 70 v) (hd : DataW.Trod enc Tryd.prog w 0 (fun _ => true) true 70 v d ps) : ∃ l, Sl w v 3 (cat ldc l) := by
  obtain ⟨a, n, c, rfl⟩ := slice_of Tryd.underlying70 h
  have hl := lvs_of_Trod hd 4 flat_loads
  rw [show (Value.slice a n c).cells.toList = [Value.slice a n c] from rfl] at hl
  cases hl with | slice x1 _ _ _ s1 _ e1 hl =>
    obtain ⟨us, hu, _⟩ := cat_of (f := ldc) (xss := x1) fun xs hxs => by
      obtain ⟨a, b, c, hl⟩ := leaves3 (e1 xs hxs 4 _ flat_load)
      exact ⟨(a, b, c), hl⟩
    rw [cells_load, hu] at s1
    exact ⟨us, s1⟩
theorem classes_of {H : Type} {enc : TypeId × Value → H} {w : World} {base : Nat} {v : Value} {d : DataW H} {ps : List MemPlace} (h : Value.okWide Tryd.prog w .any base 65 v) (hd : DataW.Trod enc Tryd.prog w 0 (fun _ => true) true 65 v d ps) : ∃ l, Sl w v 7 (cat clc l) := by
  obtain ⟨a, n, c, rfl⟩ := slice_of Tryd.underlying65 h
  have hl := lvs_of_Trod hd 4 flat_classes
  rw [show (Value.slice a n c).cells.toList = [Value.slice a n c] from rfl] at hl
  cases hl with | slice x1 _ _ _ s1 _ e1 hl =>
    obtain ⟨us, hu, _⟩ := cat_of (f := clc) (xss := x1) fun xs hxs => by
      obtain ⟨a, b, c, d, e, f, g, hl⟩ := leaves7 (e1 xs hxs 4 _ flat_class)
      exact ⟨⟨a, b, c, d, e, f, g⟩, hl⟩
    rw [cells_class, hu] at s1
    exact ⟨us, s1⟩
end Go.Proofs.YtcnlbnccbnapbaaDoor

