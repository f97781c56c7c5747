/- A part of a proof: the symbolic walk and what it shows of single functions. -/
import Derived.Test.YtaloedccoadedaaDoorSwB
set_option linter.all false
namespace Go.Proofs.YtaloedccoadedaaDoor
open Go.RowKit Go.SX
set_option maxRecDepth 20000
set_option maxHeartbeats 0
set_option linter.unusedSimpArgs false
set_option linter.unusedVariables false
theorem among_fn (w : World) (v : Value) (n : Nat) (hn : n ≤ 200) (f : Nat → Int) (m : Int) (hs : Sl w v 1 (ints (rowF n f))) : SX.Fn Tryd.prog 65 [v, I m] w (fun _ => False) fun q N => Got q 3 1 i1 (zs (chpL n f m)) N := by
  obtain ⟨a, na, c, rfl⟩ := hs.shape
  have hna := hs.le i1_len (by omega)
  rw [rowF_len] at hna
  subst hna
  have hr := hs.rd0
  refine walk [] [] (det0_ok _ _) Tryd.func65 rfl Tryd.ntmps65 res65 (by kernel_rfl) no_facts ?_
  simp (config := { maxSteps := 4000000 }) only [↓sx0, ↓sx1, ↓sx2, ↓sx3, ↓sx4, ↓sx5, ↓sx6, sx0, sx1, sx2, sx3, sx4, sx5, sx6, tf65, ev3_hold, sxo, sxc, sxp, sxq, sxr, sxs, sxl, sxm, Int.reduceBEq, Int.reduceBNe, Int.reduceLT, Int.reduceLE, Int.reduceEq, Int.reduceGT, Int.reduceGE, Int.reduceToNat, ↓reduceIte, List.reduceReplicate, Nat.reduceAdd, Nat.reduceSub, Nat.reduceMul, Nat.reduceLT, Nat.reduceLeDiff, Nat.reduceBEq, Nat.reduceEqDiff]
  refine loop_constH [HO.row (.slice none 0 0) 3 1 (ints (zs (chpL 0 f m)))] ((HImp.nil _ _).trans (HImp.nilRow _ _ _ _)) [(5, 22)] (fun q : Nat × Option Addr × Nat => [(5, .slice q.2.1 (zs (chpL q.1 f m)).length q.2.2), (6, I q.1)])
    (fun q H1 => q.1 ≤ n ∧ (q.2.1 = none → zs (chpL q.1 f m) = []) ∧ H1 = [HO.row (.slice q.2.1 (zs (chpL q.1 f m)).length q.2.2) 3 1 (ints (zs (chpL q.1 f m)))]) (fun q => n - q.1) (0, none, 0) ?_ ⟨Nat.zero_le _, fun _ => rfl, rfl⟩ ?_
  · simp (config := { maxSteps := 4000000 }) only [↓sx0, ↓sx1, ↓sx2, ↓sx3, ↓sx4, ↓sx5, ↓sx6, sx0, sx1, sx2, sx3, sx4, sx5, sx6, tf65, ev3_hold, sxo, sxc, sxp, sxq, sxr, sxs, sxl, sxm, Int.reduceBEq, Int.reduceBNe, Int.reduceLT, Int.reduceLE, Int.reduceEq, Int.reduceGT, Int.reduceGE, Int.reduceToNat, ↓reduceIte, List.reduceReplicate, Nat.reduceAdd, Nat.reduceSub, Nat.reduceMul, Nat.reduceLT, Nat.reduceLeDiff, Nat.reduceBEq, Nat.reduceEqDiff]
    try simp [chpL, zs]
  rintro ⟨k, ad, cp⟩ H1 g1 hinv
  simp only [] at hinv
  obtain ⟨hk, hnil, rfl⟩ := hinv
  by_cases hkn : k = n
  · have e7 : ((k : Int) < (n : Int)) = False := eq_false (by omega)
    subst hkn
    refine ⟨?_⟩
    simp (config := { maxSteps := 4000000 }) only [↓sx0, ↓sx1, ↓sx2, ↓sx3, ↓sx4, ↓sx5, ↓sx6, sx0, sx1, sx2, sx3, sx4, sx5, sx6, tf65, ev3_hold, sxo, sxc, sxp, sxq, sxr, sxs, sxl, sxm, Int.reduceBEq, Int.reduceBNe, Int.reduceLT, Int.reduceLE, Int.reduceEq, Int.reduceGT, Int.reduceGE, Int.reduceToNat, ↓reduceIte, List.reduceReplicate, Nat.reduceAdd, Nat.reduceSub, Nat.reduceMul, Nat.reduceLT, Nat.reduceLeDiff, Nat.reduceBEq, Nat.reduceEqDiff, e7]
    exact Got.row rfl List.mem_cons_self hnil
  have e7 : ((k : Int) < (n : Int)) = True := eq_true (by omega)
  have e8 : wr (k + 1) = ((k + 1 : Nat) : Int) := (wrap_id (by omega)).trans (by omega)
  have hsu := chpL_succ k f m
  have hcl := chpL_len k f m
  have hzl := zs_len (chpL k f m)
  by_cases hle : f k ≤ m
  · have p1 : (f k ≤ m) = True := eq_true hle
    rw [if_pos hle] at hsu
    have hz2 : zs (chpL k f m) ++ [(k : Int)] = zs (chpL (k + 1) f m) := by rw [hsu, zs_app]; rfl
    have hz3 : (zs (chpL k f m)).length + 1 = (zs (chpL (k + 1) f m)).length := by rw [← hz2, List.length_append]; rfl
    refine ⟨?_⟩
    simp (config := { maxSteps := 4000000 }) only [↓sx0, ↓sx1, ↓sx2, ↓sx3, ↓sx4, ↓sx5, ↓sx6, sx0, sx1, sx2, sx3, sx4, sx5, sx6, tf65, ev3_hold, sxo, sxc, sxp, sxq, sxr, sxs, sxl, sxm, Int.reduceBEq, Int.reduceBNe, Int.reduceLT, Int.reduceLE, Int.reduceEq, Int.reduceGT, Int.reduceGE, Int.reduceToNat, ↓reduceIte, List.reduceReplicate, Nat.reduceAdd, Nat.reduceSub, Nat.reduceMul, Nat.reduceLT, Nat.reduceLeDiff, Nat.reduceBEq, Nat.reduceEqDiff, e7]
    refine amid (at_1 (hr _) i1_len (rowF_get f (show k < n by omega)) rfl fun ad1 => ?_)
    simp (config := { maxSteps := 4000000 }) only [↓sx0, ↓sx1, ↓sx2, ↓sx3, ↓sx4, ↓sx5, ↓sx6, sx0, sx1, sx2, sx3, sx4, sx5, sx6, tf65, ev3_hold, sxo, sxc, sxp, sxq, sxr, sxs, sxl, sxm, Int.reduceBEq, Int.reduceBNe, Int.reduceLT, Int.reduceLE, Int.reduceEq, Int.reduceGT, Int.reduceGE, Int.reduceToNat, ↓reduceIte, List.reduceReplicate, Nat.reduceAdd, Nat.reduceSub, Nat.reduceMul, Nat.reduceLT, Nat.reduceLeDiff, Nat.reduceBEq, Nat.reduceEqDiff, p1]
    intro b4
    refine app_one (l := zs (chpL k f m)) (k : Int) (HImp.refl _ _) i1_len i1_one (by omega) fun ad3 c3 => ?_
    rw [hz2, hz3]
    simp (config := { maxSteps := 4000000 }) only [↓sx0, ↓sx1, ↓sx2, ↓sx3, ↓sx4, ↓sx5, ↓sx6, sx0, sx1, sx2, sx3, sx4, sx5, sx6, tf65, ev3_hold, sxo, sxc, sxp, sxq, sxr, sxs, sxl, sxm, Int.reduceBEq, Int.reduceBNe, Int.reduceLT, Int.reduceLE, Int.reduceEq, Int.reduceGT, Int.reduceGE, Int.reduceToNat, ↓reduceIte, List.reduceReplicate, Nat.reduceAdd, Nat.reduceSub, Nat.reduceMul, Nat.reduceLT, Nat.reduceLeDiff, Nat.reduceBEq, Nat.reduceEqDiff, e8]
    exact ⟨(k + 1, some ad3, c3), _, ⟨rfl, rfl⟩, HImp.refl _ _, ⟨by simp only []; omega, fun h => (by cases h), rfl⟩, by simp only []; omega⟩
  · have p1 : (f k ≤ m) = False := eq_false hle
    rw [if_neg hle, List.append_nil] at hsu
    refine ⟨?_⟩
    simp (config := { maxSteps := 4000000 }) only [↓sx0, ↓sx1, ↓sx2, ↓sx3, ↓sx4, ↓sx5, ↓sx6, sx0, sx1, sx2, sx3, sx4, sx5, sx6, tf65, ev3_hold, sxo, sxc, sxp, sxq, sxr, sxs, sxl, sxm, Int.reduceBEq, Int.reduceBNe, Int.reduceLT, Int.reduceLE, Int.reduceEq, Int.reduceGT, Int.reduceGE, Int.reduceToNat, ↓reduceIte, List.reduceReplicate, Nat.reduceAdd, Nat.reduceSub, Nat.reduceMul, Nat.reduceLT, Nat.reduceLeDiff, Nat.reduceBEq, Nat.reduceEqDiff, e7]
    refine amid (at_1 (hr _) i1_len (rowF_get f (show k < n by omega)) rfl fun ad1 => ?_)
    simp (config := { maxSteps := 4000000 }) only [↓sx0, ↓sx1, ↓sx2, ↓sx3, ↓sx4, ↓sx5, ↓sx6, sx0, sx1, sx2, sx3, sx4, sx5, sx6, tf65, ev3_hold, sxo, sxc, sxp, sxq, sxr, sxs, sxl, sxm, Int.reduceBEq, Int.reduceBNe, Int.reduceLT, Int.reduceLE, Int.reduceEq, Int.reduceGT, Int.reduceGE, Int.reduceToNat, ↓reduceIte, List.reduceReplicate, Nat.reduceAdd, Nat.reduceSub, Nat.reduceMul, Nat.reduceLT, Nat.reduceLeDiff, Nat.reduceBEq, Nat.reduceEqDiff, p1, e8]
    exact ⟨(k + 1, ad, cp), _, by simp only [hsu, and_self], HImp.refl _ _, ⟨by simp only []; omega, by simp only [hsu]; exact hnil, by simp only [hsu]⟩, by simp only []; omega⟩
theorem every_fn (w : World) (v : Value) (d : Dis) (hd : DsOk w v d) (hm : d.rs.length ≤ 1000) (so : Bool) : SX.Fn Tryd.prog 61 [v, .bool so] w (fun _ => False) fun q N => Got q 4 1 b1 (rowF d.rs.length fun _ => so) N := by
  obtain ⟨sD, sT, sS, sR, rfl, hc, hsR⟩ := hd
  obtain ⟨aR, nR, cR, rfl⟩ := hsR.shape
  have hnR := hsR.le rpc_len (by omega)
  subst hnR
  obtain ⟨m, hme⟩ : ∃ m, d.rs.length = m := ⟨_, rfl⟩
  rw [hme] at hm ⊢
  refine walk [] [] (det0_ok _ _) Tryd.func61 rfl Tryd.ntmps61 res61 (by kernel_rfl) no_facts ?_
  simp (config := { maxSteps := 4000000 }) only [↓sx0, ↓sx1, ↓sx2, ↓sx3, ↓sx4, ↓sx5, ↓sx6, sx0, sx1, sx2, sx3, sx4, sx5, sx6, tf61, ev3_hold, sxo, sxc, sxp, sxq, sxr, sxs, sxl, sxm, Int.reduceBEq, Int.reduceBNe, Int.reduceLT, Int.reduceLE, Int.reduceEq, Int.reduceGT, Int.reduceGE, Int.reduceToNat, ↓reduceIte, List.reduceReplicate, Nat.reduceAdd, Nat.reduceSub, Nat.reduceMul, Nat.reduceLT, Nat.reduceLeDiff, Nat.reduceBEq, Nat.reduceEqDiff]
  refine ⟨by omega, by omega, by omega, fun b => ?_⟩
  have hz : zerosL m [Value.bool false] = cat b1 (rowF m fun x => if x < 0 then so else false) := by
    rw [show (rowF m fun x => if x < 0 then so else false) = List.replicate m false by rw [rowF_rep]; rfl]
    exact zeros_cat b1 false m
  refine loop_constH [HO.row (.slice (some ⟨b, 0, none⟩) m m) 4 1 (cat b1 (rowF m fun x => if x < 0 then so else false))] (by rw [← hz]; exact HImp.refl _ _) [(6, 6), (11, 20)] (fun i : Nat => [(6, I i)])
    (fun i H1 => i ≤ m ∧ H1 = [HO.row (.slice (some ⟨b, 0, none⟩) m m) 4 1 (cat b1 (rowF m fun x => if x < i then so else false))]) (fun i => m - i) 0 ?_ ⟨Nat.zero_le _, rfl⟩ ?_
  · simp (config := { maxSteps := 4000000 }) only [↓sx0, ↓sx1, ↓sx2, ↓sx3, ↓sx4, ↓sx5, ↓sx6, sx0, sx1, sx2, sx3, sx4, sx5, sx6, tf61, ev3_hold, sxo, sxc, sxp, sxq, sxr, sxs, sxl, sxm, Int.reduceBEq, Int.reduceBNe, Int.reduceLT, Int.reduceLE, Int.reduceEq, Int.reduceGT, Int.reduceGE, Int.reduceToNat, ↓reduceIte, List.reduceReplicate, Nat.reduceAdd, Nat.reduceSub, Nat.reduceMul, Nat.reduceLT, Nat.reduceLeDiff, Nat.reduceBEq, Nat.reduceEqDiff]
    try simp
  rintro i H1 g1 ⟨hi, rfl⟩
  by_cases hin : i = m
  · have e7 : ((i : Int) < (m : Int)) = False := eq_false (by omega)
    have hfull : (rowF m fun x => if x < i then so else false) = rowF m fun _ => so := rowF_congr fun x hx => if_pos (by omega)
    rw [hfull]
    refine ⟨?_⟩
    simp (config := { maxSteps := 4000000 }) only [↓sx0, ↓sx1, ↓sx2, ↓sx3, ↓sx4, ↓sx5, ↓sx6, sx0, sx1, sx2, sx3, sx4, sx5, sx6, tf61, ev3_hold, sxo, sxc, sxp, sxq, sxr, sxs, sxl, sxm, Int.reduceBEq, Int.reduceBNe, Int.reduceLT, Int.reduceLE, Int.reduceEq, Int.reduceGT, Int.reduceGE, Int.reduceToNat, ↓reduceIte, List.reduceReplicate, Nat.reduceAdd, Nat.reduceSub, Nat.reduceMul, Nat.reduceLT, Nat.reduceLeDiff, Nat.reduceBEq, Nat.reduceEqDiff, e7]
    exact Got.row (rowF_len _ _) List.mem_cons_self (fun h => by cases h)
  have e7 : ((i : Int) < (m : Int)) = True := eq_true (by omega)
  have e8 : wr (i + 1) = ((i + 1 : Nat) : Int) := (wrap_id (by omega)).trans (by omega)
  have hset : (rowF m fun x => if x < i then so else false).set i so = rowF m fun x => if x < i + 1 then so else false := by
    rw [rowF_set]
    refine rowF_congr fun x hx => ?_
    by_cases e : x = i
    · rw [if_pos e, if_pos (by omega)]
    · rw [if_neg e]
      by_cases h : x < i
      · rw [if_pos h, if_pos (by omega)]
      · rw [if_neg h, if_neg (by omega)]
  refine ⟨?_⟩
  simp (config := { maxSteps := 4000000 }) only [↓sx0, ↓sx1, ↓sx2, ↓sx3, ↓sx4, ↓sx5, ↓sx6, sx0, sx1, sx2, sx3, sx4, sx5, sx6, tf61, ev3_hold, sxo, sxc, sxp, sxq, sxr, sxs, sxl, sxm, Int.reduceBEq, Int.reduceBNe, Int.reduceLT, Int.reduceLE, Int.reduceEq, Int.reduceGT, Int.reduceGE, Int.reduceToNat, ↓reduceIte, List.reduceReplicate, Nat.reduceAdd, Nat.reduceSub, Nat.reduceMul, Nat.reduceLT, Nat.reduceLeDiff, Nat.reduceBEq, Nat.reduceEqDiff, e7]
  refine ⟨by omega, _, rfl, ?_⟩
  refine wr_at (A := []) (B := []) (ad := ⟨b, 0, none⟩) (len := m) (cap := m) (e := 4) (f := b1) (l := rowF m fun x => if x < i then so else false) (u := so) rfl b1_len (by rw [rowF_len]) (by rw [rowF_len]; omega) ?_
  rw [hset]
  simp (config := { maxSteps := 4000000 }) only [↓sx0, ↓sx1, ↓sx2, ↓sx3, ↓sx4, ↓sx5, ↓sx6, sx0, sx1, sx2, sx3, sx4, sx5, sx6, tf61, ev3_hold, sxo, sxc, sxp, sxq, sxr, sxs, sxl, sxm, Int.reduceBEq, Int.reduceBNe, Int.reduceLT, Int.reduceLE, Int.reduceEq, Int.reduceGT, Int.reduceGE, Int.reduceToNat, ↓reduceIte, List.reduceReplicate, Nat.reduceAdd, Nat.reduceSub, Nat.reduceMul, Nat.reduceLT, Nat.reduceLeDiff, Nat.reduceBEq, Nat.reduceEqDiff, e8]
  exact ⟨i + 1, _, rfl, HImp.refl _ _, ⟨by omega, rfl⟩, by omega⟩
end Go.Proofs.YtaloedccoadedaaDoor
