/- Parts of a proof: the symbolic walk and what it shows of single functions. -/
import Derived.Test.YtpmodggfogahhaaGreatDoorX3
import Derived.Test.YtpmodggfogahhaaGreatDoorX4
set_option linter.all false
namespace Go.Proofs.YtpmodggfogahhaaGreatDoor.Tw
open Go.RowKit Go.SX
set_option maxRecDepth 4000
set_option maxHeartbeats 4000000
set_option linter.unusedSimpArgs false
set_option linter.unusedVariables false
abbrev wr (n : Int) : Int := IntKind.i64.wrap n
def det0 : Nat → List Value → Option Value := fun _ _ => none
theorem det0_ok (w0 : World) (X : Nat → Prop) : DetFn Tryz.prog ⟨w0, X⟩ det0 := fun _ _ _ h => by cases h
theorem det_of_fn {g : Nat} {args : List Value} {v : Value} {w : World} (h : SX.Fn Tryz.prog g args w (fun _ => False) fun u N => u = v ∧ N = []) : Calls Tryz.prog g args.toArray w fun e w' => e = .returned v ∧ Keep (fun _ => False) w w' :=
  Calls.mono h fun e w' ⟨u, N, he, hk, _, _, _, hu, _⟩ => ⟨by rw [he, hu], hk⟩
theorem det_of_fn' {g : Nat} {args : List Value} {v : Value} {w : World} (h : SX.Fn Tryz.prog g args w (fun _ => False) fun u N => u = v) : Calls Tryz.prog g args.toArray w fun e w' => e = .returned v ∧ Keep (fun _ => False) w w' :=
  Calls.mono h fun e w' ⟨u, N, he, hk, _, _, _, hu⟩ => ⟨by rw [he, hu], hk⟩
def inB (n l h : Int) : Bool := decide (l ≤ n ∧ n ≤ h)
theorem up_fn (w : World) (a b : Int) (hb : b ≠ 0) : SX.Fn Tryz.prog 71 [I a, I b] w (fun _ => False) fun v N => v = I (wr ((wr (wr (a + b) - 1)).tdiv b)) ∧ N = [] := by
  refine walk [] [] (det0_ok _ _) Tryz.func71 rfl Tryz.ntmps71 res71 (by kernel_rfl) no_facts ?_
  simp (config := { maxSteps := 4000000 }) only [↓sx0, ↓sx1, ↓sx2, ↓sx3, ↓sx4, ↓sx5, ↓sx6, sx0, sx1, sx2, sx3, sx4, sx5, sx6, tf71, ev3_hold, sxo, sxc, sxp, sxq, sxr, sxs, sxl, sxm, Int.reduceBEq, Int.reduceBNe, Int.reduceLT, Int.reduceLE, Int.reduceEq, Int.reduceGT, Int.reduceGE, Int.reduceToNat, ↓reduceIte, List.reduceReplicate, Nat.reduceAdd, Nat.reduceSub, Nat.reduceMul, Nat.reduceLT, Nat.reduceLeDiff, Nat.reduceBEq, Nat.reduceEqDiff]
  exact hb
theorem within_fn (w : World) (n l h : Int) : SX.Fn Tryz.prog 72 [I n, I l, I h] w (fun _ => False) fun v N => v = .bool (inB n l h) ∧ N = [] := by
  refine walk [] [] (det0_ok _ _) Tryz.func72 rfl Tryz.ntmps72 res72 (by kernel_rfl) no_facts ?_
  simp (config := { maxSteps := 4000000 }) only [↓sx0, ↓sx1, ↓sx2, ↓sx3, ↓sx4, ↓sx5, ↓sx6, sx0, sx1, sx2, sx3, sx4, sx5, sx6, tf72, ev3_hold, sxo, sxc, sxp, sxq, sxr, sxs, sxl, sxm, Int.reduceBEq, Int.reduceBNe, Int.reduceLT, Int.reduceLE, Int.reduceEq, Int.reduceGT, Int.reduceGE, Int.reduceToNat, ↓reduceIte, List.reduceReplicate, Nat.reduceAdd, Nat.reduceSub, Nat.reduceMul, Nat.reduceLT, Nat.reduceLeDiff, Nat.reduceBEq, Nat.reduceEqDiff]
  unfold inB
  exact ⟨fun h1 => by simp [h1], fun h1 => by simp [h1]⟩
def upV (a b : Int) : Int := wr ((wr (wr (a + b) - 1)).tdiv b)
def detA : Nat → List Value → Option Value
  | 71, [.int .i64 a, .int .i64 b] => if b = 0 then none else some (I (upV a b))
  | 72, [.int .i64 n, .int .i64 l, .int .i64 h] => some (.bool (inB n l h))
  | _, _ => none
theorem detA_ok (w0 : World) (X : Nat → Prop) : DetFn Tryz.prog ⟨w0, X⟩ detA := by
  intro g args v h w hk
  unfold detA at h
  split at h
  · split at h
    · cases h
    · rename_i hb
      cases h
      exact det_of_fn (up_fn w _ _ hb)
  · cases h
    exact det_of_fn (within_fn w _ _ _)
  · cases h
theorem detA_eq : ∀ n l h : Int, detA 72 [I n, I l, I h] = some (.bool (inB n l h)) := fun _ _ _ => rfl
theorem over_fn (w : World) (n : Int) : SX.Fn Tryz.prog 119 [I n] w (fun _ => False) fun v N => v = .bool (inB n 0 2000) ∧ N = [] := by
  refine walk [] [] (detA_ok _ _) Tryz.func119 rfl Tryz.ntmps119 res119 (by kernel_rfl) no_facts ?_
  simp (config := { maxSteps := 4000000 }) only [↓sx0, ↓sx1, ↓sx2, ↓sx3, ↓sx4, ↓sx5, ↓sx6, sx0, sx1, sx2, sx3, sx4, sx5, sx6, tf119, ev3_hold, sxo, sxc, sxp, sxq, sxr, sxs, sxl, sxm, Int.reduceBEq, Int.reduceBNe, Int.reduceLT, Int.reduceLE, Int.reduceEq, Int.reduceGT, Int.reduceGE, Int.reduceToNat, ↓reduceIte, List.reduceReplicate, Nat.reduceAdd, Nat.reduceSub, Nat.reduceMul, Nat.reduceLT, Nat.reduceLeDiff, Nat.reduceBEq, Nat.reduceEqDiff, detA_eq]
def isBuoyB (h m a s lo hi : Int) : Bool := inB h 0 2000 && inB m 0 2000 && inB s 0 2000 && inB a 1 500 && inB lo 1 hi && decide (hi ≤ 500)
def detB : Nat → List Value → Option Value
  | 119, [.int .i64 n] => some (.bool (inB n 0 2000))
  | g, xs => detA g xs
theorem detB_ok (w0 : World) (X : Nat → Prop) : DetFn Tryz.prog ⟨w0, X⟩ detB := by
  intro g args v h w hk
  unfold detB at h
  split at h
  · cases h
    exact det_of_fn (over_fn w _)
  · exact detA_ok w0 X _ _ _ h w hk
theorem detB_eq : (∀ n l h : Int, detB 72 [I n, I l, I h] = some (.bool (inB n l h))) ∧ (∀ n : Int, detB 119 [I n] = some (.bool (inB n 0 2000))) := ⟨fun _ _ _ => rfl, fun _ => rfl⟩
def checkV (h m a s lo hi wt : Int) : Int := if isBuoyB h m a s lo hi then (if inB wt (-2000) 2000 then 0 else 1) else 92
def rigV (h m a s lo hi wt : Int) : Value := if checkV h m a s lo hi wt = 0 then .tuple #[.agg #[I h, I m, I a, I s, I lo, I hi, I wt], I 0] else .tuple #[.agg #[I 0, I 0, I 0, I 0, I 0, I 0, I 0], I (checkV h m a s lo hi wt)]
theorem rig_fn (w : World) (h m a s lo hi wt : Int) : SX.Fn Tryz.prog 69 [.agg #[I h, I m, I a, I s, I lo, I hi], I wt] w (fun _ => False) fun v N => v = rigV h m a s lo hi wt ∧ N = [] := by
  refine walk [] [] (detB_ok _ _) Tryz.func69 rfl Tryz.ntmps69 res69 (by kernel_rfl) no_facts ?_
  simp (config := { maxSteps := 4000000 }) only [↓sx0, ↓sx1, ↓sx2, ↓sx3, ↓sx4, ↓sx5, ↓sx6, sx0, sx1, sx2, sx3, sx4, sx5, sx6, tf69, ev3_hold, sxo, sxc, sxp, sxq, sxr, sxs, sxl, sxm, Int.reduceBEq, Int.reduceBNe, Int.reduceLT, Int.reduceLE, Int.reduceEq, Int.reduceGT, Int.reduceGE, Int.reduceToNat, ↓reduceIte, List.reduceReplicate, Nat.reduceAdd, Nat.reduceSub, Nat.reduceMul, Nat.reduceLT, Nat.reduceLeDiff, Nat.reduceBEq, Nat.reduceEqDiff, detB_eq]
  have e1 : inB lo 1 hi = (!decide (lo < 1) && !decide (lo > hi)) := by
    unfold inB
    by_cases h1 : lo < 1 <;> by_cases h2 : lo > hi <;> simp [h1, h2] <;> omega
  have e2 : decide (hi ≤ 500) = !decide (hi > 500) := by
    by_cases h1 : hi > 500 <;> simp [h1] <;> omega
  unfold rigV checkV isBuoyB
  rw [e1, e2]
  simp +contextual
def detC : Nat → List Value → Option Value
  | 69, [.agg ⟨[.int .i64 h, .int .i64 m, .int .i64 a, .int .i64 s, .int .i64 lo, .int .i64 hi]⟩, .int .i64 wt] => some (rigV h m a s lo hi wt)
  | g, xs => detB g xs
theorem detC_ok (w0 : World) (X : Nat → Prop) : DetFn Tryz.prog ⟨w0, X⟩ detC := by
  intro g args v h w hk
  unfold detC at h
  split at h
  · cases h
    exact det_of_fn (rig_fn w _ _ _ _ _ _ _)
  · exact detB_ok w0 X _ _ _ h w hk
theorem detC_36 (a b : Int) (hb : b ≠ 0) : detC 71 [I a, I b] = some (I (upV a b)) := by simp [detC, detB, detA, hb]
theorem detC_eq : (∀ n l h : Int, detC 72 [I n, I l, I h] = some (.bool (inB n l h))) ∧ (∀ n : Int, detC 119 [I n] = some (.bool (inB n 0 2000))) ∧
    (∀ h m a s lo hi wt : Int, detC 69 [.agg #[I h, I m, I a, I s, I lo, I hi], I wt] = some (rigV h m a s lo hi wt)) := ⟨fun _ _ _ => rfl, fun _ => rfl, fun _ _ _ _ _ _ _ => rfl⟩
def gapV (h m a s wt x : Int) : Int := wr (wr (wr (h * wr (a - x)) + wr (m * x)) - wr (a * wr (s + wt)))
def sagV (a x : Int) : Int := wr (x * wr (a - x))
def gapArg (h m a s wt : Int) : Nat → List Value → List HO → Prop := fun k vs F => vs = [I (gapV h m a s wt k), I (sagV a k)] ∧ F = []
theorem gaps_it (w : World) (h m a s lo hi wt : Int) (ha : 0 ≤ a ∧ a ≤ 1000000) : Iter Tryz.prog 70 [.agg #[I h, I m, I a, I s, I lo, I hi, I wt]] [] (a + 1).toNat (gapArg h m a s wt) (fun _ => False) (fun _ => False) w := by
  refine walkIter [] [] (fun _ => det0_ok _ _) Tryz.func70 rfl Tryz.ntmps70 res70 (by kernel_rfl) fun l J C R hH => ?_
  simp (config := { maxSteps := 4000000 }) only [↓sx0, ↓sx1, ↓sx2, ↓sx3, ↓sx4, ↓sx5, ↓sx6, sx0, sx1, sx2, sx3, sx4, sx5, sx6, tf70, ev3_hold, sxo, sxc, sxp, sxq, sxr, sxs, sxl, sxm, Int.reduceBEq, Int.reduceBNe, Int.reduceLT, Int.reduceLE, Int.reduceEq, Int.reduceGT, Int.reduceGE, Int.reduceToNat, ↓reduceIte, List.reduceReplicate, Nat.reduceAdd, Nat.reduceSub, Nat.reduceMul, Nat.reduceLT, Nat.reduceLeDiff, Nat.reduceBEq, Nat.reduceEqDiff]
  refine loop_const [(4, 4), (10, 48)] (fun k : Nat => [(9, I k)]) (fun k H1 => k ≤ (a + 1).toNat ∧ ∃ C R, H1 = [consu J (some k) C R]) (fun k => (a + 1).toNat - k) 0 ?_ ⟨Nat.zero_le _, C, R, rfl⟩ ?_
  · simp (config := { maxSteps := 4000000 }) only [↓sx0, ↓sx1, ↓sx2, ↓sx3, ↓sx4, ↓sx5, ↓sx6, sx0, sx1, sx2, sx3, sx4, sx5, sx6, tf70, ev3_hold, sxo, sxc, sxp, sxq, sxr, sxs, sxl, sxm, Int.reduceBEq, Int.reduceBNe, Int.reduceLT, Int.reduceLE, Int.reduceEq, Int.reduceGT, Int.reduceGE, Int.reduceToNat, ↓reduceIte, List.reduceReplicate, Nat.reduceAdd, Nat.reduceSub, Nat.reduceMul, Nat.reduceLT, Nat.reduceLeDiff, Nat.reduceBEq, Nat.reduceEqDiff]
    rfl
  · rintro k H1 g ⟨hk, C1, R1, rfl⟩
    have e1 : wr (a + 1) = a + 1 := wrap_id (by omega)
    simp (config := { maxSteps := 4000000 }) only [↓sx0, ↓sx1, ↓sx2, ↓sx3, ↓sx4, ↓sx5, ↓sx6, sx0, sx1, sx2, sx3, sx4, sx5, sx6, tf70, ev3_hold, sxo, sxc, sxp, sxq, sxr, sxs, sxl, sxm, Int.reduceBEq, Int.reduceBNe, Int.reduceLT, Int.reduceLE, Int.reduceEq, Int.reduceGT, Int.reduceGE, Int.reduceToNat, ↓reduceIte, List.reduceReplicate, Nat.reduceAdd, Nat.reduceSub, Nat.reduceMul, Nat.reduceLT, Nat.reduceLeDiff, Nat.reduceBEq, Nat.reduceEqDiff, e1]
    refine ⟨fun hlt => ?_, fun hge => ⟨rfl, _, C1, R1, List.mem_cons_self, .inl (congrArg some (by omega))⟩⟩
    refine CallOb.yield hH (k := k) (by omega) (F := []) (B := []) (HImp.refl _ _) (List.Sublist.refl _) ⟨rfl, rfl⟩ (by simp) (fun _ _ b ⟨x, hx, _⟩ => by cases hx) fun t C2 R2 => ?_
    cases t with
    | false =>
      simp (config := { maxSteps := 4000000 }) only [↓sx0, ↓sx1, ↓sx2, ↓sx3, ↓sx4, ↓sx5, ↓sx6, sx0, sx1, sx2, sx3, sx4, sx5, sx6, tf70, ev3_hold, sxo, sxc, sxp, sxq, sxr, sxs, sxl, sxm, Int.reduceBEq, Int.reduceBNe, Int.reduceLT, Int.reduceLE, Int.reduceEq, Int.reduceGT, Int.reduceGE, Int.reduceToNat, ↓reduceIte, List.reduceReplicate, Nat.reduceAdd, Nat.reduceSub, Nat.reduceMul, Nat.reduceLT, Nat.reduceLeDiff, Nat.reduceBEq, Nat.reduceEqDiff]
      exact ⟨rfl, none, C2, R2, List.mem_cons_self, .inr rfl⟩
    | true =>
      have e2 : wr (k + 1) = k + 1 := wrap_id (by omega)
      simp (config := { maxSteps := 4000000 }) only [↓sx0, ↓sx1, ↓sx2, ↓sx3, ↓sx4, ↓sx5, ↓sx6, sx0, sx1, sx2, sx3, sx4, sx5, sx6, tf70, ev3_hold, sxo, sxc, sxp, sxq, sxr, sxs, sxl, sxm, Int.reduceBEq, Int.reduceBNe, Int.reduceLT, Int.reduceLE, Int.reduceEq, Int.reduceGT, Int.reduceGE, Int.reduceToNat, ↓reduceIte, List.reduceReplicate, Nat.reduceAdd, Nat.reduceSub, Nat.reduceMul, Nat.reduceLT, Nat.reduceLeDiff, Nat.reduceBEq, Nat.reduceEqDiff, e2]
      exact ⟨k + 1, _, ⟨congrArg (fun z => SV.v (Value.int .i64 z)) e1, rfl⟩, HImp.refl _ _, ⟨by omega, C2, R2, rfl⟩, by omega⟩
def slBad (g s : Int) : Bool := decide (g < 0) || (decide (g = 0) && decide (s > 0))
def slNext (hi g s t : Int) : Int := if s > 0 then max t (upV (wr (hi * s)) g) else t
def slGo (h m a s hi wt : Int) : Nat → Nat → Int → Int × Int
  | 0, _, t => (t, 0)
  | n + 1, k, t => if slBad (gapV h m a s wt k) (sagV a k) then (0, 3) else slGo h m a s hi wt n (k + 1) (slNext hi (gapV h m a s wt k) (sagV a k) t)
def slackR (h m a s lo hi wt : Int) : Int × Int := if checkV h m a s lo hi wt = 0 then slGo h m a s hi wt (a + 1).toNat 0 1 else (0, checkV h m a s lo hi wt)
theorem check_zero {h m a s lo hi wt : Int} (hc : checkV h m a s lo hi wt = 0) : isBuoyB h m a s lo hi = true ∧ inB wt (-2000) 2000 = true := by
  unfold checkV at hc
  split at hc
  · split at hc
    · exact ⟨by assumption, by assumption⟩
    · cases hc
  · cases hc
theorem slack_fn (w : World) (h m a s lo hi wt : Int) : SX.Fn Tryz.prog 25 [.agg #[I h, I m, I a, I s, I lo, I hi], I wt] w (fun _ => False) fun v N => v = .tuple #[I (slackR h m a s lo hi wt).1, I (slackR h m a s lo hi wt).2] := by
  refine walk [] [] (detC_ok _ _) Tryz.func25 rfl Tryz.ntmps25 res25 (by kernel_rfl) no_facts ?_
  by_cases hc : checkV h m a s lo hi wt = 0
  · have er : rigV h m a s lo hi wt = .tuple #[.agg #[I h, I m, I a, I s, I lo, I hi, I wt], I 0] := by simp [rigV, hc]
    have ha : 1 ≤ a ∧ a ≤ 500 := by
      have := (check_zero hc).1
      simp only [isBuoyB, inB, Bool.and_eq_true, decide_eq_true_eq] at this
      omega
    simp (config := { maxSteps := 4000000 }) only [↓sx0, ↓sx1, ↓sx2, ↓sx3, ↓sx4, ↓sx5, ↓sx6, sx0, sx1, sx2, sx3, sx4, sx5, sx6, tf25, ev3_hold, sxo, sxc, sxp, sxq, sxr, sxs, sxl, sxm, Int.reduceBEq, Int.reduceBNe, Int.reduceLT, Int.reduceLE, Int.reduceEq, Int.reduceGT, Int.reduceGE, Int.reduceToNat, ↓reduceIte, List.reduceReplicate, Nat.reduceAdd, Nat.reduceSub, Nat.reduceMul, Nat.reduceLT, Nat.reduceLeDiff, Nat.reduceBEq, Nat.reduceEqDiff, detC_eq, er]
    refine range_intro Tryz.call70 (a + 1).toNat (gapArg h m a s wt) [] (fun k L' H' => H' = [] ∧ ∃ t, L' = [(62, [I h, I m, I a, I s, I lo, I hi]), (3, [I 0]), (33, [I 0]), (139, [I h, I m, I a, I s, I lo, I hi, I wt]), (3, [I t])] ∧ slGo h m a s hi wt (a + 1).toNat 0 1 = slGo h m a s hi wt ((a + 1).toNat - k) k t) (HImp.refl _ _) (fun w _ => gaps_it w h m a s lo hi wt (by omega)) ⟨rfl, 1, rfl, rfl⟩ ?_ ?_ ?_
    · rintro k vs F ⟨rfl, rfl⟩
      rfl
    · rintro k vs F L' H' hk ⟨rfl, rfl⟩ - ⟨rfl, t, rfl, ht⟩
      have hs : slGo h m a s hi wt ((a + 1).toNat - k) k t = if slBad (gapV h m a s wt k) (sagV a k) then (0, 3) else slGo h m a s hi wt ((a + 1).toNat - (k + 1)) (k + 1) (slNext hi (gapV h m a s wt k) (sagV a k) t) := by
        rw [show (a + 1).toNat - k = ((a + 1).toNat - (k + 1)) + 1 by omega]
        rfl
      rw [hs] at ht
      simp (config := { maxSteps := 4000000 }) only [↓sx0, ↓sx1, ↓sx2, ↓sx3, ↓sx4, ↓sx5, ↓sx6, sx0, sx1, sx2, sx3, sx4, sx5, sx6, tf25, ev3_hold, sxo, sxc, sxp, sxq, sxr, sxs, sxl, sxm, Int.reduceBEq, Int.reduceBNe, Int.reduceLT, Int.reduceLE, Int.reduceEq, Int.reduceGT, Int.reduceGE, Int.reduceToNat, ↓reduceIte, List.reduceReplicate, Nat.reduceAdd, Nat.reduceSub, Nat.reduceMul, Nat.reduceLT, Nat.reduceLeDiff, Nat.reduceBEq, Nat.reduceEqDiff, detC_eq]
      refine ⟨fun h1 => ⟨fun h2 => ⟨fun h3 => ⟨[], HImp.refl _ _, ?_⟩, fun h3 => ⟨fun h4 => absurd h4 h3, fun _ => ⟨[], HImp.refl _ _, rfl, _, rfl, ?_⟩⟩⟩, fun h2 => ⟨fun h3 => ?_, fun h3 => ⟨[], HImp.refl _ _, rfl, _, rfl, ?_⟩⟩⟩, fun h1 => ⟨[], HImp.refl _ _, ?_⟩⟩
      · rw [slackR, if_pos hc, ht]
        simp [slBad, h2, h3]
      · rw [ht]
        simp [slBad, slNext, h2, h3]
      · rw [detC_36 _ _ h2]
        simp (config := { maxSteps := 4000000 }) only [↓sx0, ↓sx1, ↓sx2, ↓sx3, ↓sx4, ↓sx5, ↓sx6, sx0, sx1, sx2, sx3, sx4, sx5, sx6, tf25, ev3_hold, sxo, sxc, sxp, sxq, sxr, sxs, sxl, sxm, Int.reduceBEq, Int.reduceBNe, Int.reduceLT, Int.reduceLE, Int.reduceEq, Int.reduceGT, Int.reduceGE, Int.reduceToNat, ↓reduceIte, List.reduceReplicate, Nat.reduceAdd, Nat.reduceSub, Nat.reduceMul, Nat.reduceLT, Nat.reduceLeDiff, Nat.reduceBEq, Nat.reduceEqDiff]
        refine ⟨[], HImp.refl _ _, rfl, _, rfl, ?_⟩
        rw [ht]
        simp [slBad, slNext, h1, h2, h3, wr]
      · rw [ht]
        simp [slBad, slNext, h1, h2, h3]
      · rw [slackR, if_pos hc, ht]
        simp [slBad, h1]
    · rintro L' H' - ⟨rfl, t, rfl, ht⟩
      simp (config := { maxSteps := 4000000 }) only [↓sx0, ↓sx1, ↓sx2, ↓sx3, ↓sx4, ↓sx5, ↓sx6, sx0, sx1, sx2, sx3, sx4, sx5, sx6, tf25, ev3_hold, sxo, sxc, sxp, sxq, sxr, sxs, sxl, sxm, Int.reduceBEq, Int.reduceBNe, Int.reduceLT, Int.reduceLE, Int.reduceEq, Int.reduceGT, Int.reduceGE, Int.reduceToNat, ↓reduceIte, List.reduceReplicate, Nat.reduceAdd, Nat.reduceSub, Nat.reduceMul, Nat.reduceLT, Nat.reduceLeDiff, Nat.reduceBEq, Nat.reduceEqDiff]
      rw [slackR, if_pos hc, ht, Nat.sub_self]
      rfl
  · have er : rigV h m a s lo hi wt = .tuple #[.agg #[I 0, I 0, I 0, I 0, I 0, I 0, I 0], I (checkV h m a s lo hi wt)] := by simp [rigV, hc]
    simp (config := { maxSteps := 4000000 }) only [↓sx0, ↓sx1, ↓sx2, ↓sx3, ↓sx4, ↓sx5, ↓sx6, sx0, sx1, sx2, sx3, sx4, sx5, sx6, tf25, ev3_hold, sxo, sxc, sxp, sxq, sxr, sxs, sxl, sxm, Int.reduceBEq, Int.reduceBNe, Int.reduceLT, Int.reduceLE, Int.reduceEq, Int.reduceGT, Int.reduceGE, Int.reduceToNat, ↓reduceIte, List.reduceReplicate, Nat.reduceAdd, Nat.reduceSub, Nat.reduceMul, Nat.reduceLT, Nat.reduceLeDiff, Nat.reduceBEq, Nat.reduceEqDiff, detC_eq, er]
    refine ⟨fun _ => ?_, fun h1 => absurd h1 hc⟩
    rw [slackR, if_neg hc]
def caNext (str g s t : Int) : Int := if s > 0 then min t (wr ((wr (str * g)).tdiv s)) else t
def caGo (h m a s wt str : Int) : Nat → Nat → Int → Int
  | 0, _, t => t
  | n + 1, k, t => if gapV h m a s wt k < 0 then 0 else caGo h m a s wt str n (k + 1) (caNext str (gapV h m a s wt k) (sagV a k) t)
def carryV (h m a s lo hi wt str : Int) : Int := if checkV h m a s lo hi wt = 0 then (if inB str 1 1000000 then 0 else 1) else checkV h m a s lo hi wt
def carryR (h m a s lo hi wt str : Int) : Int × Int := if carryV h m a s lo hi wt str = 0 then (caGo h m a s wt str (a + 1).toNat 0 500, 0) else (0, carryV h m a s lo hi wt str)
theorem carry_fn (w : World) (h m a s lo hi wt str : Int) : SX.Fn Tryz.prog 26 [.agg #[I h, I m, I a, I s, I lo, I hi], I wt, I str] w (fun _ => False) fun v N => v = .tuple #[I (carryR h m a s lo hi wt str).1, I (carryR h m a s lo hi wt str).2] := by
  refine walk [] [(5, (.alt 0 (ones [1, 2] .fin) (.alt 1 (ones [0, 2] .fin) .no)))] (detC_ok _ _) Tryz.func26 rfl Tryz.ntmps26 res26 (by kernel_rfl) no_facts ?_
  by_cases hc : checkV h m a s lo hi wt = 0
  · have er : rigV h m a s lo hi wt = .tuple #[.agg #[I h, I m, I a, I s, I lo, I hi, I wt], I 0] := by simp [rigV, hc]
    have ha : 1 ≤ a ∧ a ≤ 500 := by
      have := (check_zero hc).1
      simp only [isBuoyB, inB, Bool.and_eq_true, decide_eq_true_eq] at this
      omega
    simp (config := { maxSteps := 4000000 }) only [↓sx0, ↓sx1, ↓sx2, ↓sx3, ↓sx4, ↓sx5, ↓sx6, sx0, sx1, sx2, sx3, sx4, sx5, sx6, tf26, ev3_hold, sxo, sxc, sxp, sxq, sxr, sxs, sxl, sxm, Int.reduceBEq, Int.reduceBNe, Int.reduceLT, Int.reduceLE, Int.reduceEq, Int.reduceGT, Int.reduceGE, Int.reduceToNat, ↓reduceIte, List.reduceReplicate, Nat.reduceAdd, Nat.reduceSub, Nat.reduceMul, Nat.reduceLT, Nat.reduceLeDiff, Nat.reduceBEq, Nat.reduceEqDiff, detC_eq, er]
    refine ⟨fun hs => ?_, fun hs => ?_⟩
    · have hv : carryV h m a s lo hi wt str = 1 := by simp [carryV, hc, hs]
      simp [carryR, hv]
    have hv : carryV h m a s lo hi wt str = 0 := by simp [carryV, hc, hs]
    rw [carryR, if_pos hv]
    refine range_intro Tryz.call70 (a + 1).toNat (gapArg h m a s wt) [] (fun k L' H' => H' = [] ∧ ∃ t, L' = [(62, [I h, I m, I a, I s, I lo, I hi]), (3, [I str]), (3, [I t]), (33, [I 0]), (139, [I h, I m, I a, I s, I lo, I hi, I wt])] ∧ caGo h m a s wt str (a + 1).toNat 0 500 = caGo h m a s wt str ((a + 1).toNat - k) k t) (HImp.refl _ _) (fun w _ => gaps_it w h m a s lo hi wt (by omega)) ⟨rfl, 500, rfl, rfl⟩ ?_ ?_ ?_
    · rintro k vs F ⟨rfl, rfl⟩
      rfl
    · rintro k vs F L' H' hk ⟨rfl, rfl⟩ - ⟨rfl, t, rfl, ht⟩
      have hs : caGo h m a s wt str ((a + 1).toNat - k) k t = if gapV h m a s wt k < 0 then 0 else caGo h m a s wt str ((a + 1).toNat - (k + 1)) (k + 1) (caNext str (gapV h m a s wt k) (sagV a k) t) := by
        rw [show (a + 1).toNat - k = ((a + 1).toNat - (k + 1)) + 1 by omega]
        rfl
      rw [hs] at ht
      simp (config := { maxSteps := 4000000 }) only [↓sx0, ↓sx1, ↓sx2, ↓sx3, ↓sx4, ↓sx5, ↓sx6, sx0, sx1, sx2, sx3, sx4, sx5, sx6, tf26, ev3_hold, sxo, sxc, sxp, sxq, sxr, sxs, sxl, sxm, Int.reduceBEq, Int.reduceBNe, Int.reduceLT, Int.reduceLE, Int.reduceEq, Int.reduceGT, Int.reduceGE, Int.reduceToNat, ↓reduceIte, List.reduceReplicate, Nat.reduceAdd, Nat.reduceSub, Nat.reduceMul, Nat.reduceLT, Nat.reduceLeDiff, Nat.reduceBEq, Nat.reduceEqDiff, detC_eq]
      refine ⟨fun h1 => ⟨[], HImp.refl _ _, ?_⟩, fun h1 => ⟨fun h2 => ⟨by omega, [], HImp.refl _ _, rfl, _, rfl, ?_⟩, fun h2 => ⟨[], HImp.refl _ _, rfl, _, rfl, ?_⟩⟩⟩
      · rw [ht, if_pos h1]
      · rw [ht, if_neg h1]
        simp [caNext, h2, wr]
      · rw [ht, if_neg h1]
        simp [caNext, h2]
    · rintro L' H' - ⟨rfl, t, rfl, ht⟩
      simp (config := { maxSteps := 4000000 }) only [↓sx0, ↓sx1, ↓sx2, ↓sx3, ↓sx4, ↓sx5, ↓sx6, sx0, sx1, sx2, sx3, sx4, sx5, sx6, tf26, ev3_hold, sxo, sxc, sxp, sxq, sxr, sxs, sxl, sxm, Int.reduceBEq, Int.reduceBNe, Int.reduceLT, Int.reduceLE, Int.reduceEq, Int.reduceGT, Int.reduceGE, Int.reduceToNat, ↓reduceIte, List.reduceReplicate, Nat.reduceAdd, Nat.reduceSub, Nat.reduceMul, Nat.reduceLT, Nat.reduceLeDiff, Nat.reduceBEq, Nat.reduceEqDiff]
      rw [ht, Nat.sub_self]
      rfl
  · have er : rigV h m a s lo hi wt = .tuple #[.agg #[I 0, I 0, I 0, I 0, I 0, I 0, I 0], I (checkV h m a s lo hi wt)] := by simp [rigV, hc]
    simp (config := { maxSteps := 4000000 }) only [↓sx0, ↓sx1, ↓sx2, ↓sx3, ↓sx4, ↓sx5, ↓sx6, sx0, sx1, sx2, sx3, sx4, sx5, sx6, tf26, ev3_hold, sxo, sxc, sxp, sxq, sxr, sxs, sxl, sxm, Int.reduceBEq, Int.reduceBNe, Int.reduceLT, Int.reduceLE, Int.reduceEq, Int.reduceGT, Int.reduceGE, Int.reduceToNat, ↓reduceIte, List.reduceReplicate, Nat.reduceAdd, Nat.reduceSub, Nat.reduceMul, Nat.reduceLT, Nat.reduceLeDiff, Nat.reduceBEq, Nat.reduceEqDiff, detC_eq, er, hc]
    have hv : carryV h m a s lo hi wt str = checkV h m a s lo hi wt := by simp [carryV, hc]
    simp [carryR, hv, hc]
end Go.Proofs.YtpmodggfogahhaaGreatDoor.Tw

