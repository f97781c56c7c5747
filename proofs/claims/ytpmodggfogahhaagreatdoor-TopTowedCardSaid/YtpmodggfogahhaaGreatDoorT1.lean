/- Parts of a proof: the symbolic walk and what it shows of single functions. -/
import Derived.Test.YtpmodggfogahhaaGreatDoorX3
import Derived.Test.YtpmodggfogahhaaGreatDoorX4
set_option linter.all false
namespace Go.Proofs.YtpmodggfogahhaaGreatDoor.Tw
open Go.RowKit Go.SX
set_option maxRecDepth 4000
set_option maxHeartbeats 4000000
set_option linter.unusedSimpArgs false
set_option linter.unusedVariables false
abbrev wr (n : Int) : Int := IntKind.i64.wrap n
def det0 : Nat → List Value → Option Value := fun _ _ => none
theorem det0_ok (w0 : World) (X : Nat → Prop) : DetFn Tryz.prog ⟨w0, X⟩ det0 := fun _ _ _ h => by cases h
theorem det_of_fn {g : Nat} {args : List Value} {v : Value} {w : World} (h : SX.Fn Tryz.prog g args w (fun _ => False) fun u N => u = v ∧ N = []) : Calls Tryz.prog g args.toArray w fun e w' => e = .returned v ∧ Keep (fun _ => False) w w' :=
  Calls.mono h fun e w' ⟨u, N, he, hk, _, _, _, hu, _⟩ => ⟨by rw [he, hu], hk⟩
theorem det_of_fn' {g : Nat} {args : List Value} {v : Value} {w : World} (h : SX.Fn Tryz.prog g args w (fun _ => False) fun u N => u = v) : Calls Tryz.prog g args.toArray w fun e w' => e = .returned v ∧ Keep (fun _ => False) w w' :=
  Calls.mono h fun e w' ⟨u, N, he, hk, _, _, _, hu⟩ => ⟨by rw [he, hu], hk⟩
def inB (n l h : Int) : Bool := decide (l ≤ n ∧ n ≤ h)
theorem up_fn (w : World) (a b : Int) (hb : b ≠ 0) : SX.Fn Tryz.prog 71 [I a, I b] w (fun _ => False) fun v N => v = I (wr ((wr (wr (a + b) - 1)).tdiv b)) ∧ N = [] := by
  refine walk [] [] (det0_ok _ _) Tryz.func71 rfl Tryz.ntmps71 res71 (by kernel_rfl) no_facts ?_
  simp (config := { maxSteps := 4000000 }) only [↓sx0, ↓sx1, ↓sx2, ↓sx3, ↓sx4, ↓sx5, ↓sx6, sx0, sx1, sx2, sx3, sx4, sx5, sx6, tf71, ev3_hold, sxo, sxc, sxp, sxq, sxr, sxs, sxl, sxm, Int.reduceBEq, Int.reduceBNe, Int.reduceLT, Int.reduceLE, Int.reduceEq, Int.reduceGT, Int.reduceGE, Int.reduceToNat, ↓reduceIte, List.reduceReplicate, Nat.reduceAdd, Nat.reduceSub, Nat.reduceMul, Nat.reduceLT, Nat.reduceLeDiff, Nat.reduceBEq, Nat.reduceEqDiff]
  exact hb
theorem within_fn (w : World) (n l h : Int) : SX.Fn Tryz.prog 72 [I n, I l, I h] w (fun _ => False) fun v N => v = .bool (inB n l h) ∧ N = [] := by
  refine walk [] [] (det0_ok _ _) Tryz.func72 rfl Tryz.ntmps72 res72 (by kernel_rfl) no_facts ?_
  simp (config := { maxSteps := 4000000 }) only [↓sx0, ↓sx1, ↓sx2, ↓sx3, ↓sx4, ↓sx5, ↓sx6, sx0, sx1, sx2, sx3, sx4, sx5, sx6, tf72, ev3_hold, sxo, sxc, sxp, sxq, sxr, sxs, sxl, sxm, Int.reduceBEq, Int.reduceBNe, Int.reduceLT, Int.reduceLE, Int.reduceEq, Int.reduceGT, Int.reduceGE, Int.reduceToNat, ↓reduceIte, List.reduceReplicate, Nat.reduceAdd, Nat.reduceSub, Nat.reduceMul, Nat.reduceLT, Nat.reduceLeDiff, Nat.reduceBEq, Nat.reduceEqDiff]
  unfold inB
  exact ⟨fun h1 => by simp [h1], fun h1 => by simp [h1]⟩
def upV (a b : Int) : Int := wr ((wr (wr (a + b) - 1)).tdiv b)
def detA : Nat → List Value → Option Value
  | 71, [.int .i64 a, .int .i64 b] => if b = 0 then none else some (I (upV a b))
  | 72, [.int .i64 n, .int .i64 l, .int .i64 h] => some (.bool (inB n l h))
  | _, _ => none
theorem detA_ok (w0 : World) (X : Nat → Prop) : DetFn Tryz.prog ⟨w0, X⟩ detA := by
  intro g args v h w hk
  unfold detA at h
  split at h
  · split at h
    · cases h
    · rename_i hb
      cases h
      exact det_of_fn (up_fn w _ _ hb)
  · cases h
    exact det_of_fn (within_fn w _ _ _)
  · cases h
theorem detA_eq : ∀ n l h : Int, detA 72 [I n, I l, I h] = some (.bool (inB n l h)) := fun _ _ _ => rfl
theorem over_fn (w : World) (n : Int) : SX.Fn Tryz.prog 119 [I n] w (fun _ => False) fun v N => v = .bool (inB n 0 2000) ∧ N = [] := by
  refine walk [] [] (detA_ok _ _) Tryz.func119 rfl Tryz.ntmps119 res119 (by kernel_rfl) no_facts ?_
  simp (config := { maxSteps := 4000000 }) only [↓sx0, ↓sx1, ↓sx2, ↓sx3, ↓sx4, ↓sx5, ↓sx6, sx0, sx1, sx2, sx3, sx4, sx5, sx6, tf119, ev3_hold, sxo, sxc, sxp, sxq, sxr, sxs, sxl, sxm, Int.reduceBEq, Int.reduceBNe, Int.reduceLT, Int.reduceLE, Int.reduceEq, Int.reduceGT, Int.reduceGE, Int.reduceToNat, ↓reduceIte, List.reduceReplicate, Nat.reduceAdd, Nat.reduceSub, Nat.reduceMul, Nat.reduceLT, Nat.reduceLeDiff, Nat.reduceBEq, Nat.reduceEqDiff, detA_eq]
def isBuoyB (h m a s lo hi : Int) : Bool := inB h 0 2000 && inB m 0 2000 && inB s 0 2000 && inB a 1 500 && inB lo 1 hi && decide (hi ≤ 500)
def detB : Nat → List Value → Option Value
  | 119, [.int .i64 n] => some (.bool (inB n 0 2000))
  | g, xs => detA g xs
theorem detB_ok (w0 : World) (X : Nat → Prop) : DetFn Tryz.prog ⟨w0, X⟩ detB := by
  intro g args v h w hk
  unfold detB at h
  split at h
  · cases h
    exact det_of_fn (over_fn w _)
  · exact detA_ok w0 X _ _ _ h w hk
theorem detB_eq : (∀ n l h : Int, detB 72 [I n, I l, I h] = some (.bool (inB n l h))) ∧ (∀ n : Int, detB 119 [I n] = some (.bool (inB n 0 2000))) := ⟨fun _ _ _ => rfl, fun _ => rfl⟩
def checkV (h m a s lo hi wt : Int) : Int := if isBuoyB h m a s lo hi then (if inB wt (-2000) 2000 then 0 else 1) else 92
def rigV (h m a s lo hi wt : Int) : Value := if checkV h m a s lo hi wt = 0 then .tuple #[.agg #[I h, I m, I a, I s, I lo, I hi, I wt], I 0] else .tuple #[.agg #[I 0, I 0, I 0, I 0, I 0, I 0, I 0], I (checkV h m a s lo hi wt)]
theorem rig_fn (w : World) (h m a s lo hi wt : Int) : SX.Fn Tryz.prog 69 [.agg #[I h, I m, I a, I s, I lo, I hi], I wt] w (fun _ => False) fun v N => v = rigV h m a s lo hi wt ∧ N = [] := by
  refine walk [] [] (detB_ok _ _) Tryz.func69 rfl Tryz.ntmps69 res69 (by kernel_rfl) no_facts ?_
  simp (config := { maxSteps := 4000000 }) only [↓sx0, ↓sx1, ↓sx2, ↓sx3, ↓sx4, ↓sx5, ↓sx6, sx0, sx1, sx2, sx3, sx4, sx5, sx6, tf69, ev3_hold, sxo, sxc, sxp, sxq, sxr, sxs, sxl, sxm, Int.reduceBEq, Int.reduceBNe, Int.reduceLT, Int.reduceLE, Int.reduceEq, Int.reduceGT, Int.reduceGE, Int.reduceToNat, ↓reduceIte, List.reduceReplicate, Nat.reduceAdd, Nat.reduceSub, Nat.reduceMul, Nat.reduceLT, Nat.reduceLeDiff, Nat.reduceBEq, Nat.reduceEqDiff, detB_eq]
  have e1 : inB lo 1 hi = (!decide (lo < 1) && !decide (lo > hi)) := by
    unfold inB
    by_cases h1 : lo < 1 <;> by_cases h2 : lo > hi <;> simp [h1, h2] <;> omega
  have e2 : decide (hi ≤ 500) = !decide (hi > 500) := by
    by_cases h1 : hi > 500 <;> simp [h1] <;> omega
  unfold rigV checkV isBuoyB
  rw [e1, e2]
  simp +contextual
def detC : Nat → List Value → Option Value
  | 69, [.agg ⟨[.int .i64 h, .int .i64 m, .int .i64 a, .int .i64 s, .int .i64 lo, .int .i64 hi]⟩, .int .i64 wt] => some (rigV h m a s lo hi wt)
  | g, xs => detB g xs
theorem detC_ok (w0 : World) (X : Nat → Prop) : DetFn Tryz.prog ⟨w0, X⟩ detC := by
  intro g args v h w hk
  unfold detC at h
  split at h
  · cases h
    exact det_of_fn (rig_fn w _ _ _ _ _ _ _)
  · exact detB_ok w0 X _ _ _ h w hk
theorem detC_36 (a b : Int) (hb : b ≠ 0) : detC 71 [I a, I b] = some (I (upV a b)) := by simp [detC, detB, detA, hb]
theorem detC_eq : (∀ n l h : Int, detC 72 [I n, I l, I h] = some (.bool (inB n l h))) ∧ (∀ n : Int, detC 119 [I n] = some (.bool (inB n 0 2000))) ∧
    (∀ h m a s lo hi wt : Int, detC 69 [.agg #[I h, I m, I a, I s, I lo, I hi], I wt] = some (rigV h m a s lo hi wt)) := ⟨fun _ _ _ => rfl, fun _ => rfl, fun _ _ _ _ _ _ _ => rfl⟩
def gapV (h m a s wt x : Int) : Int := wr (wr (wr (h * wr (a - x)) + wr (m * x)) - wr (a * wr (s + wt)))
def sagV (a x : Int) : Int := wr (x * wr (a - x))
def gapArg (h m a s wt : Int) : Nat → List Value → List HO → Prop := fun k vs F => vs = [I (gapV h m a s wt k), I (sagV a k)] ∧ F = []
theorem gaps_it (w : World) (h m a s lo hi wt : Int) (ha : 0 ≤ a ∧ a ≤ 1000000) : Iter Tryz.prog 70 [.agg #[I h, I m, I a, I s, I lo, I hi, I wt]] [] (a + 1).toNat (gapArg h m a s wt) (fun _ => False) (fun _ => False) w := by
  refine walkIter [] [] (fun _ => det0_ok _ _) Tryz.func70 rfl Tryz.ntmps70 res70 (by kernel_rfl) fun l J C R hH => ?_
  simp (config := { maxSteps := 4000000 }) only [↓sx0, ↓sx1, ↓sx2, ↓sx3, ↓sx4, ↓sx5, ↓sx6, sx0, sx1, sx2, sx3, sx4, sx5, sx6, tf70, ev3_hold, sxo, sxc, sxp, sxq, sxr, sxs, sxl, sxm, Int.reduceBEq, Int.reduceBNe, Int.reduceLT, Int.reduceLE, Int.reduceEq, Int.reduceGT, Int.reduceGE, Int.reduceToNat, ↓reduceIte, List.reduceReplicate, Nat.reduceAdd, Nat.reduceSub, Nat.reduceMul, Nat.reduceLT, Nat.reduceLeDiff, Nat.reduceBEq, Nat.reduceEqDiff]
  refine loop_const [(4, 4), (10, 48)] (fun k : Nat => [(9, I k)]) (fun k H1 => k ≤ (a + 1).toNat ∧ ∃ C R, H1 = [consu J (some k) C R]) (fun k => (a + 1).toNat - k) 0 ?_ ⟨Nat.zero_le _, C, R, rfl⟩ ?_
  · simp (config := { maxSteps := 4000000 }) only [↓sx0, ↓sx1, ↓sx2, ↓sx3, ↓sx4, ↓sx5, ↓sx6, sx0, sx1, sx2, sx3, sx4, sx5, sx6, tf70, ev3_hold, sxo, sxc, sxp, sxq, sxr, sxs, sxl, sxm, Int.reduceBEq, Int.reduceBNe, Int.reduceLT, Int.reduceLE, Int.reduceEq, Int.reduceGT, Int.reduceGE, Int.reduceToNat, ↓reduceIte, List.reduceReplicate, Nat.reduceAdd, Nat.reduceSub, Nat.reduceMul, Nat.reduceLT, Nat.reduceLeDiff, Nat.reduceBEq, Nat.reduceEqDiff]
    rfl
  · rintro k H1 g ⟨hk, C1, R1, rfl⟩
    have e1 : wr (a + 1) = a + 1 := wrap_id (by omega)
    simp (config := { maxSteps := 4000000 }) only [↓sx0, ↓sx1, ↓sx2, ↓sx3, ↓sx4, ↓sx5, ↓sx6, sx0, sx1, sx2, sx3, sx4, sx5, sx6, tf70, ev3_hold, sxo, sxc, sxp, sxq, sxr, sxs, sxl, sxm, Int.reduceBEq, Int.reduceBNe, Int.reduceLT, Int.reduceLE, Int.reduceEq, Int.reduceGT, Int.reduceGE, Int.reduceToNat, ↓reduceIte, List.reduceReplicate, Nat.reduceAdd, Nat.reduceSub, Nat.reduceMul, Nat.reduceLT, Nat.reduceLeDiff, Nat.reduceBEq, Nat.reduceEqDiff, e1]
    refine ⟨fun hlt => ?_, fun hge => ⟨rfl, _, C1, R1, List.mem_cons_self, .inl (congrArg some (by omega))⟩⟩
    refine CallOb.yield hH (k := k) (by omega) (F := []) (B := []) (HImp.refl _ _) (List.Sublist.refl _) ⟨rfl, rfl⟩ (by simp) (fun _ _ b ⟨x, hx, _⟩ => by cases hx) fun t C2 R2 => ?_
    cases t with
    | false =>
      simp (config := { maxSteps := 4000000 }) only [↓sx0, ↓sx1, ↓sx2, ↓sx3, ↓sx4, ↓sx5, ↓sx6, sx0, sx1, sx2, sx3, sx4, sx5, sx6, tf70, ev3_hold, sxo, sxc, sxp, sxq, sxr, sxs, sxl, sxm, Int.reduceBEq, Int.reduceBNe, Int.reduceLT, Int.reduceLE, Int.reduceEq, Int.reduceGT, Int.reduceGE, Int.reduceToNat, ↓reduceIte, List.reduceReplicate, Nat.reduceAdd, Nat.reduceSub, Nat.reduceMul, Nat.reduceLT, Nat.reduceLeDiff, Nat.reduceBEq, Nat.reduceEqDiff]
      exact ⟨rfl, none, C2, R2, List.mem_cons_self, .inr rfl⟩
    | true =>
      have e2 : wr (k + 1) = k + 1 := wrap_id (by omega)
      simp (config := { maxSteps := 4000000 }) only [↓sx0, ↓sx1, ↓sx2, ↓sx3, ↓sx4, ↓sx5, ↓sx6, sx0, sx1, sx2, sx3, sx4, sx5, sx6, tf70, ev3_hold, sxo, sxc, sxp, sxq, sxr, sxs, sxl, sxm, Int.reduceBEq, Int.reduceBNe, Int.reduceLT, Int.reduceLE, Int.reduceEq, Int.reduceGT, Int.reduceGE, Int.reduceToNat, ↓reduceIte, List.reduceReplicate, Nat.reduceAdd, Nat.reduceSub, Nat.reduceMul, Nat.reduceLT, Nat.reduceLeDiff, Nat.reduceBEq, Nat.reduceEqDiff, e2]
      exact ⟨k + 1, _, ⟨congrArg (fun z => SV.v (Value.int .i64 z)) e1, rfl⟩, HImp.refl _ _, ⟨by omega, C2, R2, rfl⟩, by omega⟩
def slBad (g s : Int) : Bool := decide (g < 0) || (decide (g = 0) && decide (s > 0))
def slNext (hi g s t : Int) : Int := if s > 0 then max t (upV (wr (hi * s)) g) else t
def slGo (h m a s hi wt : Int) : Nat → Nat → Int → Int × Int
  | 0, _, t => (t, 0)
  | n + 1, k, t => if slBad (gapV h m a s wt k) (sagV a k) then (0, 3) else slGo h m a s hi wt n (k + 1) (slNext hi (gapV h m a s wt k) (sagV a k) t)
def slackR (h m a s lo hi wt : Int) : Int × Int := if checkV h m a s lo hi wt = 0 then slGo h m a s hi wt (a + 1).toNat 0 1 else (0, checkV h m a s lo hi wt)
theorem check_zero {h m a s lo hi wt : Int} (hc : checkV h m a s lo hi wt = 0) : isBuoyB h m a s lo hi = true ∧ inB wt (-2000) 2000 = true := by
  unfold checkV at hc
  split at hc
  · split at hc
    · exact ⟨by assumption, by assumption⟩
    · cases hc
  · cases hc
theorem slack_fn (w : World) (h m a s lo hi wt : Int) : SX.Fn Tryz.prog 25 [.agg #[I h, I m, I a, I s, I lo, I hi], I wt] w (fun _ => False) fun v N => v = .tuple #[I (slackR h m a s lo hi wt).1, I (slackR h m a s lo hi wt).2] := by
  refine walk [] [] (detC_ok _ _) Tryz.func25 rfl Tryz.ntmps25 res25 (by kernel_rfl) no_facts ?_
  by_cases hc : checkV h m a s lo hi wt = 0
  · have er : rigV h m a s lo hi wt = .tuple #[.agg #[I h, I m, I a, I s, I lo, I hi, I wt], I 0] := by simp [rigV, hc]
    have ha : 1 ≤ a ∧ a ≤ 500 := by
      have := (check_zero hc).1
      simp only [isBuoyB, inB, Bool.and_eq_true, decide_eq_true_eq] at this
      omega
    simp (config := { maxSteps := 4000000 }) only [↓sx0, ↓sx1, ↓sx2, ↓sx3, ↓sx4, ↓sx5, ↓sx6, sx0, sx1, sx2, sx3, sx4, sx5, sx6, tf25, ev3_hold, sxo, sxc, sxp, sxq, sxr, sxs, sxl, sxm, Int.reduceBEq, Int.reduceBNe, Int.reduceLT, Int.reduceLE, Int.reduceEq, Int.reduceGT, Int.reduceGE, Int.reduceToNat, ↓reduceIte, List.reduceReplicate, Nat.reduceAdd, Nat.reduceSub, Nat.reduceMul, Nat.reduceLT, Nat.reduceLeDiff, Nat.reduceBEq, Nat.reduceEqDiff, detC_eq, er]
    refine range_intro Tryz.call70 (a + 1).toNat (gapArg h m a s wt) [] (fun k L' H' => H' = [] ∧ ∃ t, L' = [(62, [I h, I m, I a, I s, I lo, I hi]), (3, [I 0]), (33, [I 0]), (139, [I h, I m, I a, I s, I lo, I hi, I wt]), (3, [I t])] ∧ slGo h m a s hi wt (a + 1).toNat 0 1 = slGo h m a s hi wt ((a + 1).toNat - k) k t) (HImp.refl _ _) (fun w _ => gaps_it w h m a s lo hi wt (by omega)) ⟨rfl, 1, rfl, rfl⟩ ?_ ?_ ?_
    · rintro k vs F ⟨rfl, rfl⟩
      rfl
    · rintro k vs F L' H' hk ⟨rfl, rfl⟩ - ⟨rfl, t, rfl, ht⟩
      have hs : slGo h m a s hi wt ((a + 1).toNat - k) k t = if slBad (gapV h m a s wt k) (sagV a k) then (0, 3) else slGo h m a s hi wt ((a + 1).toNat - (k + 1)) (k + 1) (slNext hi (gapV h m a s wt k) (sagV a k) t) := by
        rw [show (a + 1).toNat - k = ((a + 1).toNat - (k + 1)) + 1 by omega]
        rfl
      rw [hs] at ht
      simp (config := { maxSteps := 4000000 }) only [↓sx0, ↓sx1, ↓sx2, ↓sx3, ↓sx4, ↓sx5, ↓sx6, sx0, sx1, sx2, sx3, sx4, sx5, sx6, tf25, ev3_hold, sxo, sxc, sxp, sxq, sxr, sxs, sxl, sxm, Int.reduceBEq, Int.reduceBNe, Int.reduceLT, Int.reduceLE, Int.reduceEq, Int.reduceGT, Int.reduceGE, Int.reduceToNat, ↓reduceIte, List.reduceReplicate, Nat.reduceAdd, Nat.reduceSub, Nat.reduceMul, Nat.reduceLT, Nat.reduceLeDiff, Nat.reduceBEq, Nat.reduceEqDiff, detC_eq]
      refine ⟨fun h1 => ⟨fun h2 => ⟨fun h3 => ⟨[], HImp.refl _ _, ?_⟩, fun h3 => ⟨fun h4 => absurd h4 h3, fun _ => ⟨[], HImp.refl _ _, rfl, _, rfl, ?_⟩⟩⟩, fun h2 => ⟨fun h3 => ?_, fun h3 => ⟨[], HImp.refl _ _, rfl, _, rfl, ?_⟩⟩⟩, fun h1 => ⟨[], HImp.refl _ _, ?_⟩⟩
      · rw [slackR, if_pos hc, ht]
        simp [slBad, h2, h3]
      · rw [ht]
        simp [slBad, slNext, h2, h3]
      · rw [detC_36 _ _ h2]
        simp (config := { maxSteps := 4000000 }) only [↓sx0, ↓sx1, ↓sx2, ↓sx3, ↓sx4, ↓sx5, ↓sx6, sx0, sx1, sx2, sx3, sx4, sx5, sx6, tf25, ev3_hold, sxo, sxc, sxp, sxq, sxr, sxs, sxl, sxm, Int.reduceBEq, Int.reduceBNe, Int.reduceLT, Int.reduceLE, Int.reduceEq, Int.reduceGT, Int.reduceGE, Int.reduceToNat, ↓reduceIte, List.reduceReplicate, Nat.reduceAdd, Nat.reduceSub, Nat.reduceMul, Nat.reduceLT, Nat.reduceLeDiff, Nat.reduceBEq, Nat.reduceEqDiff]
        refine ⟨[], HImp.refl _ _, rfl, _, rfl, ?_⟩
        rw [ht]
        simp [slBad, slNext, h1, h2, h3, wr]
      · rw [ht]
        simp [slBad, slNext, h1, h2, h3]
      · rw [slackR, if_pos hc, ht]
        simp [slBad, h1]
    · rintro L' H' - ⟨rfl, t, rfl, ht⟩
      simp (config := { maxSteps := 4000000 }) only [↓sx0, ↓sx1, ↓sx2, ↓sx3, ↓sx4, ↓sx5, ↓sx6, sx0, sx1, sx2, sx3, sx4, sx5, sx6, tf25, ev3_hold, sxo, sxc, sxp, sxq, sxr, sxs, sxl, sxm, Int.reduceBEq, Int.reduceBNe, Int.reduceLT, Int.reduceLE, Int.reduceEq, Int.reduceGT, Int.reduceGE, Int.reduceToNat, ↓reduceIte, List.reduceReplicate, Nat.reduceAdd, Nat.reduceSub, Nat.reduceMul, Nat.reduceLT, Nat.reduceLeDiff, Nat.reduceBEq, Nat.reduceEqDiff]
      rw [slackR, if_pos hc, ht, Nat.sub_self]
      rfl
  · have er : rigV h m a s lo hi wt = .tuple #[.agg #[I 0, I 0, I 0, I 0, I 0, I 0, I 0], I (checkV h m a s lo hi wt)] := by simp [rigV, hc]
    simp (config := { maxSteps := 4000000 }) only [↓sx0, ↓sx1, ↓sx2, ↓sx3, ↓sx4, ↓sx5, ↓sx6, sx0, sx1, sx2, sx3, sx4, sx5, sx6, tf25, ev3_hold, sxo, sxc, sxp, sxq, sxr, sxs, sxl, sxm, Int.reduceBEq, Int.reduceBNe, Int.reduceLT, Int.reduceLE, Int.reduceEq, Int.reduceGT, Int.reduceGE, Int.reduceToNat, ↓reduceIte, List.reduceReplicate, Nat.reduceAdd, Nat.reduceSub, Nat.reduceMul, Nat.reduceLT, Nat.reduceLeDiff, Nat.reduceBEq, Nat.reduceEqDiff, detC_eq, er]
    refine ⟨fun _ => ?_, fun h1 => absurd h1 hc⟩
    rw [slackR, if_neg hc]
def caNext (str g s t : Int) : Int := if s > 0 then min t (wr ((wr (str * g)).tdiv s)) else t
def caGo (h m a s wt str : Int) : Nat → Nat → Int → Int
  | 0, _, t => t
  | n + 1, k, t => if gapV h m a s wt k < 0 then 0 else caGo h m a s wt str n (k + 1) (caNext str (gapV h m a s wt k) (sagV a k) t)
def carryV (h m a s lo hi wt str : Int) : Int := if checkV h m a s lo hi wt = 0 then (if inB str 1 1000000 then 0 else 1) else checkV h m a s lo hi wt
def carryR (h m a s lo hi wt str : Int) : Int × Int := if carryV h m a s lo hi wt str = 0 then (caGo h m a s wt str (a + 1).toNat 0 500, 0) else (0, carryV h m a s lo hi wt str)
theorem carry_fn (w : World) (h m a s lo hi wt str : Int) : SX.Fn Tryz.prog 26 [.agg #[I h, I m, I a, I s, I lo, I hi], I wt, I str] w (fun _ => False) fun v N => v = .tuple #[I (carryR h m a s lo hi wt str).1, I (carryR h m a s lo hi wt str).2] := by
  refine walk [] [(5, (.alt 0 (ones [1, 2] .fin) (.alt 1 (ones [0, 2] .fin) .no)))] (detC_ok _ _) Tryz.func26 rfl Tryz.ntmps26 res26 (by kernel_rfl) no_facts ?_
  by_cases hc : checkV h m a s lo hi wt = 0
  · have er : rigV h m a s lo hi wt = .tuple #[.agg #[I h, I m, I a, I s, I lo, I hi, I wt], I 0] := by simp [rigV, hc]
    have ha : 1 ≤ a ∧ a ≤ 500 := by
      have := (check_zero hc).1
      simp only [isBuoyB, inB, Bool.and_eq_true, decide_eq_true_eq] at this
      omega
    simp (config := { maxSteps := 4000000 }) only [↓sx0, ↓sx1, ↓sx2, ↓sx3, ↓sx4, ↓sx5, ↓sx6, sx0, sx1, sx2, sx3, sx4, sx5, sx6, tf26, ev3_hold, sxo, sxc, sxp, sxq, sxr, sxs, sxl, sxm, Int.reduceBEq, Int.reduceBNe, Int.reduceLT, Int.reduceLE, Int.reduceEq, Int.reduceGT, Int.reduceGE, Int.reduceToNat, ↓reduceIte, List.reduceReplicate, Nat.reduceAdd, Nat.reduceSub, Nat.reduceMul, Nat.reduceLT, Nat.reduceLeDiff, Nat.reduceBEq, Nat.reduceEqDiff, detC_eq, er]
    refine ⟨fun hs => ?_, fun hs => ?_⟩
    · have hv : carryV h m a s lo hi wt str = 1 := by simp [carryV, hc, hs]
      simp [carryR, hv]
    have hv : carryV h m a s lo hi wt str = 0 := by simp [carryV, hc, hs]
    rw [carryR, if_pos hv]
    refine range_intro Tryz.call70 (a + 1).toNat (gapArg h m a s wt) [] (fun k L' H' => H' = [] ∧ ∃ t, L' = [(62, [I h, I m, I a, I s, I lo, I hi]), (3, [I str]), (3, [I t]), (33, [I 0]), (139, [I h, I m, I a, I s, I lo, I hi, I wt])] ∧ caGo h m a s wt str (a + 1).toNat 0 500 = caGo h m a s wt str ((a + 1).toNat - k) k t) (HImp.refl _ _) (fun w _ => gaps_it w h m a s lo hi wt (by omega)) ⟨rfl, 500, rfl, rfl⟩ ?_ ?_ ?_
    · rintro k vs F ⟨rfl, rfl⟩
      rfl
    · rintro k vs F L' H' hk ⟨rfl, rfl⟩ - ⟨rfl, t, rfl, ht⟩
      have hs : caGo h m a s wt str ((a + 1).toNat - k) k t = if gapV h m a s wt k < 0 then 0 else caGo h m a s wt str ((a + 1).toNat - (k + 1)) (k + 1) (caNext str (gapV h m a s wt k) (sagV a k) t) := by
        rw [show (a + 1).toNat - k = ((a + 1).toNat - (k + 1)) + 1 by omega]
        rfl
      rw [hs] at ht
      simp (config := { maxSteps := 4000000 }) only [↓sx0, ↓sx1, ↓sx2, ↓sx3, ↓sx4, ↓sx5, ↓sx6, sx0, sx1, sx2, sx3, sx4, sx5, sx6, tf26, ev3_hold, sxo, sxc, sxp, sxq, sxr, sxs, sxl, sxm, Int.reduceBEq, Int.reduceBNe, Int.reduceLT, Int.reduceLE, Int.reduceEq, Int.reduceGT, Int.reduceGE, Int.reduceToNat, ↓reduceIte, List.reduceReplicate, Nat.reduceAdd, Nat.reduceSub, Nat.reduceMul, Nat.reduceLT, Nat.reduceLeDiff, Nat.reduceBEq, Nat.reduceEqDiff, detC_eq]
      refine ⟨fun h1 => ⟨[], HImp.refl _ _, ?_⟩, fun h1 => ⟨fun h2 => ⟨by omega, [], HImp.refl _ _, rfl, _, rfl, ?_⟩, fun h2 => ⟨[], HImp.refl _ _, rfl, _, rfl, ?_⟩⟩⟩
      · rw [ht, if_pos h1]
      · rw [ht, if_neg h1]
        simp [caNext, h2, wr]
      · rw [ht, if_neg h1]
        simp [caNext, h2]
    · rintro L' H' - ⟨rfl, t, rfl, ht⟩
      simp (config := { maxSteps := 4000000 }) only [↓sx0, ↓sx1, ↓sx2, ↓sx3, ↓sx4, ↓sx5, ↓sx6, sx0, sx1, sx2, sx3, sx4, sx5, sx6, tf26, ev3_hold, sxo, sxc, sxp, sxq, sxr, sxs, sxl, sxm, Int.reduceBEq, Int.reduceBNe, Int.reduceLT, Int.reduceLE, Int.reduceEq, Int.reduceGT, Int.reduceGE, Int.reduceToNat, ↓reduceIte, List.reduceReplicate, Nat.reduceAdd, Nat.reduceSub, Nat.reduceMul, Nat.reduceLT, Nat.reduceLeDiff, Nat.reduceBEq, Nat.reduceEqDiff]
      rw [ht, Nat.sub_self]
      rfl
  · have er : rigV h m a s lo hi wt = .tuple #[.agg #[I 0, I 0, I 0, I 0, I 0, I 0, I 0], I (checkV h m a s lo hi wt)] := by simp [rigV, hc]
    simp (config := { maxSteps := 4000000 }) only [↓sx0, ↓sx1, ↓sx2, ↓sx3, ↓sx4, ↓sx5, ↓sx6, sx0, sx1, sx2, sx3, sx4, sx5, sx6, tf26, ev3_hold, sxo, sxc, sxp, sxq, sxr, sxs, sxl, sxm, Int.reduceBEq, Int.reduceBNe, Int.reduceLT, Int.reduceLE, Int.reduceEq, Int.reduceGT, Int.reduceGE, Int.reduceToNat, ↓reduceIte, List.reduceReplicate, Nat.reduceAdd, Nat.reduceSub, Nat.reduceMul, Nat.reduceLT, Nat.reduceLeDiff, Nat.reduceBEq, Nat.reduceEqDiff, detC_eq, er, hc]
    have hv : carryV h m a s lo hi wt str = checkV h m a s lo hi wt := by simp [carryV, hc]
    simp [carryR, hv, hc]
end Go.Proofs.YtpmodggfogahhaaGreatDoor.Tw

namespace Go.Proofs.YtpmodggfogahhaaGreatDoor.Tw
open Go.RowKit Go.SX
set_option maxRecDepth 4000
set_option maxHeartbeats 4000000
set_option linter.unusedSimpArgs false
set_option linter.unusedVariables false
def detD : Nat → List Value → Option Value
  | 25, [.agg ⟨[.int .i64 h, .int .i64 m, .int .i64 a, .int .i64 s, .int .i64 lo, .int .i64 hi]⟩, .int .i64 wt] => some (.tuple #[I (slackR h m a s lo hi wt).1, I (slackR h m a s lo hi wt).2])
  | 26, [.agg ⟨[.int .i64 h, .int .i64 m, .int .i64 a, .int .i64 s, .int .i64 lo, .int .i64 hi]⟩, .int .i64 wt, .int .i64 str] => some (.tuple #[I (carryR h m a s lo hi wt str).1, I (carryR h m a s lo hi wt str).2])
  | g, xs => detC g xs
theorem detD_ok (w0 : World) (X : Nat → Prop) : DetFn Tryz.prog ⟨w0, X⟩ detD := by
  intro g args v h w hk
  unfold detD at h
  split at h
  · cases h
    exact det_of_fn' (slack_fn w _ _ _ _ _ _ _)
  · cases h
    exact det_of_fn' (carry_fn w _ _ _ _ _ _ _ _)
  · exact detC_ok w0 X _ _ _ h w hk
theorem detD_eq : (∀ n l h : Int, detD 72 [I n, I l, I h] = some (.bool (inB n l h))) ∧
    (∀ h m a s lo hi wt : Int, detD 25 [.agg #[I h, I m, I a, I s, I lo, I hi], I wt] = some (.tuple #[I (slackR h m a s lo hi wt).1, I (slackR h m a s lo hi wt).2])) ∧
    (∀ h m a s lo hi wt str : Int, detD 26 [.agg #[I h, I m, I a, I s, I lo, I hi], I wt, I str] = some (.tuple #[I (carryR h m a s lo hi wt str).1, I (carryR h m a s lo hi wt str).2])) := ⟨fun _ _ _ => rfl, fun _ _ _ _ _ _ _ => rfl, fun _ _ _ _ _ _ _ _ => rfl⟩
structure Tw where
  dl : Int
  dh : Int
  len : Int
  mass : Int
  str : Int
def twc (u : Tw) : List Value := [I u.dl, I u.dh, I u.len, I u.mass, I u.str]
def twcs (us : List Tw) : List Value := us.flatMap twc
theorem twcs_len (us : List Tw) : (twcs us).length = us.length * 5 := by
  induction us with
  | nil => rfl
  | cons u us ih =>
    rw [twcs, List.flatMap_cons, List.length_append]
    rw [twcs] at ih
    rw [ih]
    simp only [twc, List.length_cons, List.length_nil]
    omega
theorem twcs_get {us : List Tw} {i : Nat} {u : Tw} (h : us[i]? = some u) (j : Nat) (hj : j < 5) : (twcs us)[i * 5 + j]? = (twc u)[j]? := by
  induction us generalizing i with
  | nil => simp at h
  | cons x us ih =>
    rw [twcs, List.flatMap_cons]
    cases i with
    | zero =>
      simp only [List.getElem?_cons_zero, Option.some.injEq] at h
      subst h
      rw [List.getElem?_append_left (by simp [twc]; omega)]
      simp
    | succ i =>
      simp only [List.getElem?_cons_succ] at h
      rw [List.getElem?_append_right (by simp [twc]; omega)]
      have e : (i + 1) * 5 + j - (twc x).length = i * 5 + j := by simp [twc]; omega
      rw [e]
      exact ih h
def wrongB (u : Tw) : Bool := decide (u.dl < 1) || decide (u.dl > u.dh) || decide (u.dh > 100) || !inB u.len 1 2000 || !inB u.mass 0 20 || !inB u.str 0 1000000
theorem wrong_fn (w : World) (a b c d e : Int) : SX.Fn Tryz.prog 130 [.agg #[I a, I b, I c, I d, I e]] w (fun _ => False) fun v N => v = .bool (wrongB ⟨a, b, c, d, e⟩) := by
  refine walk [] [] (detD_ok _ _) Tryz.func130 rfl Tryz.ntmps130 res130 (by kernel_rfl) no_facts ?_
  simp (config := { maxSteps := 4000000 }) only [↓sx0, ↓sx1, ↓sx2, ↓sx3, ↓sx4, ↓sx5, ↓sx6, sx0, sx1, sx2, sx3, sx4, sx5, sx6, tf130, ev3_hold, sxo, sxc, sxp, sxq, sxr, sxs, sxl, sxm, simprocAttr, detD_eq]
  unfold wrongB
  simp +contextual
  intros
  omega
def detE : Nat → List Value → Option Value
  | 130, [.agg ⟨[.int .i64 a, .int .i64 b, .int .i64 c, .int .i64 d, .int .i64 e]⟩] => some (.bool (wrongB ⟨a, b, c, d, e⟩))
  | g, xs => detD g xs
theorem detE_ok (w0 : World) (X : Nat → Prop) : DetFn Tryz.prog ⟨w0, X⟩ detE := by
  intro g args v h w hk
  unfold detE at h
  split at h
  · cases h
    exact det_of_fn' (wrong_fn w _ _ _ _ _)
  · exact detD_ok w0 X _ _ _ h w hk
theorem detE_eq : (∀ n l h : Int, detE 72 [I n, I l, I h] = some (.bool (inB n l h))) ∧
    (∀ u : Tw, detE 130 [.agg (twc u).toArray] = some (.bool (wrongB u))) ∧ (∀ xs, detE 131 xs = none) ∧ (∀ xs, detE 159 xs = none) := ⟨fun _ _ _ => rfl, fun _ => rfl, fun _ => rfl, fun _ => rfl⟩
def fwGo : List Tw → Nat → Int
  | [], _ => -1
  | u :: us, k => if wrongB u then k else fwGo us (k + 1)
theorem index_fn (w : World) (a : Option Addr) (n c : Nat) (us : List Tw) (hs : Sl w (.slice a n c) 5 (twcs us)) (hn : us.length = n) (hb : n ≤ 1000000) : SX.Fn Tryz.prog 159 [.slice a n c, .func (.func 130) #[] #[]] w (fun _ => False) fun v N => v = I (fwGo us 0) := by
  refine walk [] [] (detE_ok _ _) Tryz.func159 rfl Tryz.ntmps159 res159 (by kernel_rfl) no_facts ?_
  simp (config := { maxSteps := 4000000 }) only [↓sx0, ↓sx1, ↓sx2, ↓sx3, ↓sx4, ↓sx5, ↓sx6, sx0, sx1, sx2, sx3, sx4, sx5, sx6, tf159, ev3_hold, sxo, sxc, sxp, sxq, sxr, sxs, sxl, sxm, simprocAttr, detE_eq, cT130]
  refine loop_const [(5, 5), (9, 18)] (fun k : Nat => [(8, I k)]) (fun k H1 => H1 = [] ∧ k ≤ n ∧ fwGo us 0 = fwGo (us.drop k) k) (fun k => n - k) 0 ?_ ⟨rfl, Nat.zero_le _, rfl⟩ ?_
  · simp (config := { maxSteps := 4000000 }) only [↓sx0, ↓sx1, ↓sx2, ↓sx3, ↓sx4, ↓sx5, ↓sx6, sx0, sx1, sx2, sx3, sx4, sx5, sx6, tf159, ev3_hold, sxo, sxc, sxp, sxq, sxr, sxs, sxl, sxm, simprocAttr]
    try rfl
  · rintro k H1 g ⟨rfl, hk, ht⟩
    have e2 : wr (k + 1) = k + 1 := wrap_id (by omega)
    simp (config := { maxSteps := 4000000 }) only [↓sx0, ↓sx1, ↓sx2, ↓sx3, ↓sx4, ↓sx5, ↓sx6, sx0, sx1, sx2, sx3, sx4, sx5, sx6, tf159, ev3_hold, sxo, sxc, sxp, sxq, sxr, sxs, sxl, sxm, simprocAttr, detE_eq, e2, cT130]
    refine ⟨fun h1 => ?_, fun h1 => ?_⟩
    · obtain ⟨ad, rfl⟩ := hs.addr (by rw [twcs_len]; omega)
      have hkl : k < us.length := by omega
      have hu : us[k]? = some us[k] := List.getElem?_eq_getElem hkl
      refine ⟨by omega, h1, ad, rfl, ldn (xs := twcs us) (vs := twc us[k]) (hs.rds id) rfl (fun j v hj => ?_) ?_⟩
      · have hj5 : j < 5 := (List.getElem?_eq_some_iff.1 hj).1
        rw [twcs_get hu j hj5]
        exact hj
      · rw [List.drop_eq_getElem_cons hkl] at ht
        simp only [fwGo] at ht
        simp (config := { maxSteps := 4000000 }) only [↓sx0, ↓sx1, ↓sx2, ↓sx3, ↓sx4, ↓sx5, ↓sx6, sx0, sx1, sx2, sx3, sx4, sx5, sx6, tf159, ev3_hold, sxo, sxc, sxp, sxq, sxr, sxs, sxl, sxm, simprocAttr, detE_eq, e2, cT130]
        refine ⟨fun hw => ?_, fun hw => ⟨k + 1, _, rfl, HImp.refl _ _, ⟨rfl, by omega, ?_⟩, by omega⟩⟩
        · rw [ht, if_pos hw]
        · rw [ht, if_neg (by simp [hw])]
    · rw [ht, List.drop_of_length_le (by omega)]
      try rfl
theorem contains_fn (w : World) (a : Option Addr) (n c : Nat) (us : List Tw) (hs : Sl w (.slice a n c) 5 (twcs us)) (hn : us.length = n) (hb : n ≤ 1000000) : SX.Fn Tryz.prog 131 [.slice a n c, .func (.func 130) #[] #[]] w (fun _ => False) fun v N => v = .bool (decide (fwGo us 0 ≥ 0)) := by
  refine walk [] [] (detE_ok _ _) Tryz.func131 rfl Tryz.ntmps131 res131 (by kernel_rfl) no_facts ?_
  simp (config := { maxSteps := 4000000 }) only [↓sx0, ↓sx1, ↓sx2, ↓sx3, ↓sx4, ↓sx5, ↓sx6, sx0, sx1, sx2, sx3, sx4, sx5, sx6, tf131, ev3_hold, sxo, sxc, sxp, sxq, sxr, sxs, sxl, sxm, simprocAttr, detE_eq]
  refine CallOb.pure (fun w' hp => index_fn w' a n c us (hs.hp (fun _ _ => id) hp) hn hb) ?_
  rintro v N rfl
  simp (config := { maxSteps := 4000000 }) only [↓sx0, ↓sx1, ↓sx2, ↓sx3, ↓sx4, ↓sx5, ↓sx6, sx0, sx1, sx2, sx3, sx4, sx5, sx6, tf131, ev3_hold, sxo, sxc, sxp, sxq, sxr, sxs, sxl, sxm, simprocAttr]
theorem fwGo_any (us : List Tw) (k : Nat) : fwGo us k ≥ 0 ↔ us.any wrongB = true := by
  induction us generalizing k with
  | nil => simp [fwGo]
  | cons u us ih =>
    have e : fwGo (u :: us) k = if wrongB u = true then (k : Int) else fwGo us (k + 1) := rfl
    rw [e]
    by_cases hw : wrongB u = true
    · simp only [hw, if_true, List.any_cons, Bool.true_or, iff_true]
      omega
    · have hf : wrongB u = false := by simpa using hw
      simp only [hf, List.any_cons, Bool.false_or, Bool.false_eq_true, if_false]
      exact ih (k + 1)
def trainB (us : List Tw) : Bool := decide (1 ≤ us.length ∧ us.length ≤ 8) && !us.any wrongB
theorem check2_fn (w : World) (a : Option Addr) (n c : Nat) (us : List Tw) (hs : Sl w (.slice a n c) 5 (twcs us)) (hn : us.length = n) : SX.Fn Tryz.prog 85 [.agg #[.slice a n c]] w (fun _ => False) fun v N => v = I (if trainB us then 0 else 90) := by
  refine walk [] [] (detE_ok _ _) Tryz.func85 rfl Tryz.ntmps85 res85 (by kernel_rfl) no_facts ?_
  have hin : inB n 1 8 = decide (1 ≤ us.length ∧ us.length ≤ 8) := by
    unfold inB
    rw [decide_eq_decide]
    omega
  simp (config := { maxSteps := 4000000 }) only [↓sx0, ↓sx1, ↓sx2, ↓sx3, ↓sx4, ↓sx5, ↓sx6, sx0, sx1, sx2, sx3, sx4, sx5, sx6, tf85, ev3_hold, sxo, sxc, sxp, sxq, sxr, sxs, sxl, sxm, simprocAttr, detE_eq, hin]
  refine ⟨fun h1 => ?_, fun h1 => ?_⟩
  · refine CallOb.pure (fun w' hp => contains_fn w' a n c us (hs.hp (fun _ _ => id) hp) hn (by omega)) ?_
    rintro v N rfl
    simp (config := { maxSteps := 4000000 }) only [↓sx0, ↓sx1, ↓sx2, ↓sx3, ↓sx4, ↓sx5, ↓sx6, sx0, sx1, sx2, sx3, sx4, sx5, sx6, tf85, ev3_hold, sxo, sxc, sxp, sxq, sxr, sxs, sxl, sxm, simprocAttr]
    refine ⟨fun h2 => ?_, fun h2 => ?_⟩
    · have h3 := (fwGo_any us 0).1 h2
      simp only [trainB, h3, Bool.not_true, Bool.and_false, Bool.false_eq_true, if_false]
    · have h3 : us.any wrongB = false := Bool.eq_false_iff.2 fun h => h2 ((fwGo_any us 0).2 h)
      simp only [trainB, h3, h1, Bool.not_false, Bool.and_true, decide_true, and_self, if_true]
  · simp [trainB, h1]
theorem twc_len (u : Tw) : (twc u).length = 5 := rfl
theorem twcs_cat (us : List Tw) : twcs us = cat twc us := rfl
def boundsV (len mass str v d : Int) : (Int × Int) × Bool :=
  if mass > 0 then
    if d = 0 then ((0, wr (str.tdiv (wr (v * v)))), false)
    else ((upV (wr (wr (mass * len) * len)) (wr (wr (wr (8 * v) * v) * d)), wr (str.tdiv (wr (v * v)))), decide (upV (wr (wr (mass * len) * len)) (wr (wr (wr (8 * v) * v) * d)) ≤ wr (str.tdiv (wr (v * v)))))
  else ((0, wr (str.tdiv (wr (v * v)))), decide (0 ≤ wr (str.tdiv (wr (v * v)))))
theorem bounds_fn (w : World) (a b c v d : Int) (h1 : wr (v * v) ≠ 0) (h2 : b > 0 → d ≠ 0 → wr (wr (wr (8 * v) * v) * d) ≠ 0) : SX.Fn Tryz.prog 133 [.agg #[I a, I b, I c], I v, I d] w (fun _ => False) fun r N => r = .tuple #[.agg #[I (boundsV a b c v d).1.1, I (boundsV a b c v d).1.2], .bool (boundsV a b c v d).2] := by
  refine walk [] [(6, (ones [0, 1, 3] (.alt 2 (.alt 4 (ones [5, 6, 7] .fin) (.alt 6 (ones [4, 5, 7] .fin) .no)) (.alt 4 (.alt 2 (ones [5, 6, 7] .fin) (.alt 6 (ones [2, 5, 7] .fin) .no)) (.alt 6 (ones [2, 4, 5, 7] .fin) .no)))))] (detE_ok _ _) Tryz.func133 rfl Tryz.ntmps133 res133 (by kernel_rfl) no_facts ?_
  by_cases hb : b > 0
  · by_cases hd : d = 0
    · subst hd
      simp (config := { maxSteps := 4000000 }) only [↓sx0, ↓sx1, ↓sx2, ↓sx3, ↓sx4, ↓sx5, ↓sx6, sx0, sx1, sx2, sx3, sx4, sx5, sx6, tf133, ev3_hold, sxo, sxc, sxp, sxq, sxr, sxs, sxl, sxm, simprocAttr, detE_eq, hb]
      refine ⟨h1, ?_⟩
      have e : boundsV a b c v 0 = ((0, wr (c.tdiv (wr (v * v)))), false) := by rw [boundsV, if_pos hb, if_pos rfl]
      rw [e]
    · have e36 : detE 71 [I (wr (wr (b * a) * a)), I (wr (wr (wr (8 * v) * v) * d))] = some (I (upV (wr (wr (b * a) * a)) (wr (wr (wr (8 * v) * v) * d)))) := by simp [detE, detD, detC, detB, detA, h2 hb hd]
      simp (config := { maxSteps := 4000000 }) only [↓sx0, ↓sx1, ↓sx2, ↓sx3, ↓sx4, ↓sx5, ↓sx6, sx0, sx1, sx2, sx3, sx4, sx5, sx6, tf133, ev3_hold, sxo, sxc, sxp, sxq, sxr, sxs, sxl, sxm, simprocAttr, detE_eq, hb, hd, e36]
      refine ⟨h1, ?_⟩
      rw [boundsV, if_pos hb, if_neg hd]
  · simp (config := { maxSteps := 4000000 }) only [↓sx0, ↓sx1, ↓sx2, ↓sx3, ↓sx4, ↓sx5, ↓sx6, sx0, sx1, sx2, sx3, sx4, sx5, sx6, tf133, ev3_hold, sxo, sxc, sxp, sxq, sxr, sxs, sxl, sxm, simprocAttr, detE_eq, hb]
    refine ⟨h1, ?_⟩
    rw [boundsV, if_neg hb]
open Classical in
noncomputable def detF (v : Value) (us : List Tw) : Nat → List Value → Option Value
  | 85, xs => if xs = [.agg #[v]] then some (I (if trainB us then 0 else 90)) else none
  | 133, [.agg ⟨[.int .i64 a, .int .i64 b, .int .i64 c]⟩, .int .i64 v, .int .i64 d] => if wr (v * v) ≠ 0 ∧ (b > 0 → d ≠ 0 → wr (wr (wr (8 * v) * v) * d) ≠ 0) then some (.tuple #[.agg #[I (boundsV a b c v d).1.1, I (boundsV a b c v d).1.2], .bool (boundsV a b c v d).2]) else none
  | g, xs => detE g xs
theorem detF_ok {v : Value} {us : List Tw} {w0 : World} {X : Nat → Prop} (hs : Sl w0 v 5 (twcs us)) (hX : ∀ b, rsl w0 v b → ¬ X b) : DetFn Tryz.prog ⟨w0, X⟩ (detF v us) := by
  intro g args r h w hk
  obtain ⟨a, n, c, rfl⟩ := hs.shape
  have hn := hs.le (f := twc) twc_len (by omega)
  have hs' := hs.keepR hk hX
  unfold detF at h
  split at h
  · split at h
    · subst_vars
      cases h
      exact det_of_fn' (check2_fn w a _ c us hs' rfl)
    · cases h
  · split at h
    · rename_i hc
      cases h
      exact det_of_fn' (bounds_fn w _ _ _ _ _ hc.1 hc.2)
    · cases h
  · exact detE_ok w0 X _ _ _ h w hk
theorem detF_bounds (us : List Tw) (s : Value) {a b c v d : Int} (h1 : wr (v * v) ≠ 0) (h2 : b > 0 → d ≠ 0 → wr (wr (wr (8 * v) * v) * d) ≠ 0) :
    detF s us 133 [.agg #[I a, I b, I c], I v, I d] = some (.tuple #[.agg #[I (boundsV a b c v d).1.1, I (boundsV a b c v d).1.2], .bool (boundsV a b c v d).2]) :=
  if_pos ⟨h1, h2⟩
def exT : List Tw := [⟨4, 6, 200, 1, 1000⟩, ⟨2, 3, 100, 1, 100⟩]
end Go.Proofs.YtpmodggfogahhaaGreatDoor.Tw

namespace Go.Proofs.YtpmodggfogahhaaGreatDoor.Tw
open Go.RowKit Go.SX
set_option maxRecDepth 4000
set_option maxHeartbeats 4000000
set_option linter.unusedSimpArgs false
set_option linter.unusedVariables false
def Tw.ok (u : Tw) : Prop := 1 ≤ u.dl ∧ u.dl ≤ u.dh ∧ u.dh ≤ 100 ∧ 1 ≤ u.len ∧ u.len ≤ 2000 ∧ 0 ≤ u.mass ∧ u.mass ≤ 20 ∧ 0 ≤ u.str ∧ u.str ≤ 1000000
theorem wrong_iff (u : Tw) : wrongB u = false ↔ u.ok := by
  unfold wrongB Tw.ok inB
  simp only [Bool.or_eq_false_iff, decide_eq_false_iff_not, Bool.not_eq_false', decide_eq_true_eq]
  omega
def okT (us : List Tw) : Prop := 1 ≤ us.length ∧ us.length ≤ 8 ∧ ∀ u ∈ us, u.ok
theorem train_iff (us : List Tw) : trainB us = true ↔ okT us := by
  unfold trainB okT
  simp only [Bool.and_eq_true, decide_eq_true_eq, Bool.not_eq_true', List.any_eq_false]
  constructor
  · rintro ⟨⟨h1, h2⟩, h3⟩
    exact ⟨h1, h2, fun u hu => (wrong_iff u).1 (by simpa using h3 u hu)⟩
  · rintro ⟨h1, h2, h3⟩
    exact ⟨⟨h1, h2⟩, fun u hu => by simp [(wrong_iff u).2 (h3 u hu)]⟩
def loS (us : List Tw) (i : Nat) : Int := ((us.drop i).map Tw.dl).sum
def hiS (us : List Tw) (i : Nat) : Int := ((us.drop i).map Tw.dh).sum
theorem sum_bd (f : Tw → Int) (hf : ∀ u, u.ok → 0 ≤ f u ∧ f u ≤ 100) (us : List Tw) (h : ∀ u ∈ us, u.ok) : 0 ≤ (us.map f).sum ∧ (us.map f).sum ≤ 100 * us.length := by
  induction us with
  | nil => simp
  | cons u us ih =>
    have h1 := ih fun v hv => h v (List.mem_cons_of_mem _ hv)
    have h2 := hf u (h u List.mem_cons_self)
    rw [List.map_cons, List.sum_cons, List.length_cons]
    omega
theorem loS_bd {us : List Tw} (h : okT us) (i : Nat) : 0 ≤ loS us i ∧ loS us i ≤ 800 := by
  have := sum_bd Tw.dl (fun u hu => by unfold Tw.ok at hu; omega) (us.drop i) fun u hu => h.2.2 u (List.mem_of_mem_drop hu)
  have h8 := h.2.1
  simp only [List.length_drop] at this
  unfold loS
  omega
theorem hiS_bd {us : List Tw} (h : okT us) (i : Nat) : 0 ≤ hiS us i ∧ hiS us i ≤ 800 := by
  have := sum_bd Tw.dh (fun u hu => by unfold Tw.ok at hu; omega) (us.drop i) fun u hu => h.2.2 u (List.mem_of_mem_drop hu)
  have h8 := h.2.1
  simp only [List.length_drop] at this
  unfold hiS
  omega
theorem loS_cons {us : List Tw} {i : Nat} (h : i < us.length) : loS us i = us[i].dl + loS us (i + 1) := by
  unfold loS
  rw [List.drop_eq_getElem_cons h, List.map_cons, List.sum_cons]
theorem hiS_cons {us : List Tw} {i : Nat} (h : i < us.length) : hiS us i = us[i].dh + hiS us (i + 1) := by
  unfold hiS
  rw [List.drop_eq_getElem_cons h, List.map_cons, List.sum_cons]
theorem loS_end (us : List Tw) : loS us us.length = 0 := by simp [loS]
theorem hiS_end (us : List Tw) : hiS us us.length = 0 := by simp [hiS]
def backArg (us : List Tw) : Nat → List Value → List HO → Prop := fun k vs F => ∃ u, us[us.length - 1 - k]? = some u ∧ vs = [I ((us.length - 1 - k : Nat) : Int), .agg (twc u).toArray] ∧ F = []
theorem back_it (w : World) (b : Nat) (v : Value) (us : List Tw) (hb : w.cell? ⟨b, 0, none⟩ = some v) (hs : Sl w v 5 (twcs us)) (hl : us.length ≤ 1000000) :
    Iter Tryz.prog 160 [] [.pointer (some ⟨b, 0, none⟩)] us.length (backArg us) (fun _ => False) (fun x => x = b ∨ rsl w v x) w := by
  obtain ⟨a, n, c, rfl⟩ := hs.shape
  have hn := hs.le (f := twc) twc_len (by omega)
  refine walkIterR _ [] [] (fun _ _ => det0_ok _ _) Tryz.func160 rfl Tryz.ntmps160 res160 (by kernel_rfl) fun l J C R hRs hH => ?_
  have hr := hs.rdR (X := fun b => C b ∨ False) (fun b hb => hRs b (.inr hb))
  have hbX := hRs b (.inl rfl)
  simp (config := { maxSteps := 4000000 }) only [↓sx0, ↓sx1, ↓sx2, ↓sx3, ↓sx4, ↓sx5, ↓sx6, sx0, sx1, sx2, sx3, sx4, sx5, sx6, tf160, ev3_hold, sxo, sxc, sxp, sxq, sxr, sxs, sxl, sxm, Int.reduceBEq, Int.reduceBNe, Int.reduceLT, Int.reduceLE, Int.reduceEq, Int.reduceGT, Int.reduceGE, Int.reduceToNat, ↓reduceIte, List.reduceReplicate, Nat.reduceAdd, Nat.reduceSub, Nat.reduceMul, Nat.reduceLT, Nat.reduceLeDiff, Nat.reduceBEq, Nat.reduceEqDiff]
  refine ld_old hb hbX ?_
  have e0 : wr ((n : Int) - 1) = n - 1 := wrap_id (by omega)
  simp (config := { maxSteps := 4000000 }) only [↓sx0, ↓sx1, ↓sx2, ↓sx3, ↓sx4, ↓sx5, ↓sx6, sx0, sx1, sx2, sx3, sx4, sx5, sx6, tf160, ev3_hold, sxo, sxc, sxp, sxq, sxr, sxs, sxl, sxm, Int.reduceBEq, Int.reduceBNe, Int.reduceLT, Int.reduceLE, Int.reduceEq, Int.reduceGT, Int.reduceGE, Int.reduceToNat, ↓reduceIte, List.reduceReplicate, Nat.reduceAdd, Nat.reduceSub, Nat.reduceMul, Nat.reduceLT, Nat.reduceLeDiff, Nat.reduceBEq, Nat.reduceEqDiff, e0]
  refine loop_const [(3, 3), (7, 18)] (fun k : Nat => [(3, I ((n : Int) - 1 - k))]) (fun k H1 => k ≤ n ∧ ∃ C R, H1 = [consu J (some k) C R]) (fun k => n - k) 0 ?_ ⟨Nat.zero_le _, C, R, rfl⟩ ?_
  · simp (config := { maxSteps := 4000000 }) only [↓sx0, ↓sx1, ↓sx2, ↓sx3, ↓sx4, ↓sx5, ↓sx6, sx0, sx1, sx2, sx3, sx4, sx5, sx6, tf160, ev3_hold, sxo, sxc, sxp, sxq, sxr, sxs, sxl, sxm, Int.reduceBEq, Int.reduceBNe, Int.reduceLT, Int.reduceLE, Int.reduceEq, Int.reduceGT, Int.reduceGE, Int.reduceToNat, ↓reduceIte, List.reduceReplicate, Nat.reduceAdd, Nat.reduceSub, Nat.reduceMul, Nat.reduceLT, Nat.reduceLeDiff, Nat.reduceBEq, Nat.reduceEqDiff]
    simp
  · rintro k H1 g ⟨hk, C1, R1, rfl⟩
    simp (config := { maxSteps := 4000000 }) only [↓sx0, ↓sx1, ↓sx2, ↓sx3, ↓sx4, ↓sx5, ↓sx6, sx0, sx1, sx2, sx3, sx4, sx5, sx6, tf160, ev3_hold, sxo, sxc, sxp, sxq, sxr, sxs, sxl, sxm, Int.reduceBEq, Int.reduceBNe, Int.reduceLT, Int.reduceLE, Int.reduceEq, Int.reduceGT, Int.reduceGE, Int.reduceToNat, ↓reduceIte, List.reduceReplicate, Nat.reduceAdd, Nat.reduceSub, Nat.reduceMul, Nat.reduceLT, Nat.reduceLeDiff, Nat.reduceBEq, Nat.reduceEqDiff]
    refine ⟨fun h1 => ?_, fun h1 => ?_⟩
    · refine ld_old hb hbX ?_
      simp (config := { maxSteps := 4000000 }) only [↓sx0, ↓sx1, ↓sx2, ↓sx3, ↓sx4, ↓sx5, ↓sx6, sx0, sx1, sx2, sx3, sx4, sx5, sx6, tf160, ev3_hold, sxo, sxc, sxp, sxq, sxr, sxs, sxl, sxm, Int.reduceBEq, Int.reduceBNe, Int.reduceLT, Int.reduceLE, Int.reduceEq, Int.reduceGT, Int.reduceGE, Int.reduceToNat, ↓reduceIte, List.reduceReplicate, Nat.reduceAdd, Nat.reduceSub, Nat.reduceMul, Nat.reduceLT, Nat.reduceLeDiff, Nat.reduceBEq, Nat.reduceEqDiff]
      have hkl : n - 1 - k < us.length := by omega
      have hk1 : k < us.length := by omega
      have e1 : (n : Int) - 1 - k = ((n - 1 - k : Nat) : Int) := by omega
      rw [e1]
      refine at_n (hr _) twc_len (by omega) (List.getElem?_eq_getElem hkl) fun ad => ?_
      simp (config := { maxSteps := 4000000 }) only [↓sx0, ↓sx1, ↓sx2, ↓sx3, ↓sx4, ↓sx5, ↓sx6, sx0, sx1, sx2, sx3, sx4, sx5, sx6, tf160, ev3_hold, sxo, sxc, sxp, sxq, sxr, sxs, sxl, sxm, Int.reduceBEq, Int.reduceBNe, Int.reduceLT, Int.reduceLE, Int.reduceEq, Int.reduceGT, Int.reduceGE, Int.reduceToNat, ↓reduceIte, List.reduceReplicate, Nat.reduceAdd, Nat.reduceSub, Nat.reduceMul, Nat.reduceLT, Nat.reduceLeDiff, Nat.reduceBEq, Nat.reduceEqDiff]
      refine CallOb.yield hH (k := k) hk1 (F := []) (B := []) (HImp.refl _ _) (List.Sublist.refl _) ⟨us[n - 1 - k], by rw [hn]; exact List.getElem?_eq_getElem hkl, by rw [hn], rfl⟩ (by simp) (fun _ _ b ⟨x, hx, _⟩ => by cases hx) fun t C2 R2 => ?_
      have e2 : wr (((n - 1 - k : Nat) : Int) - 1) = (n : Int) - 1 - ((k + 1 : Nat) : Int) := (wrap_id (by omega)).trans (by omega)
      cases t with
      | false =>
        simp (config := { maxSteps := 4000000 }) only [↓sx0, ↓sx1, ↓sx2, ↓sx3, ↓sx4, ↓sx5, ↓sx6, sx0, sx1, sx2, sx3, sx4, sx5, sx6, tf160, ev3_hold, sxo, sxc, sxp, sxq, sxr, sxs, sxl, sxm, Int.reduceBEq, Int.reduceBNe, Int.reduceLT, Int.reduceLE, Int.reduceEq, Int.reduceGT, Int.reduceGE, Int.reduceToNat, ↓reduceIte, List.reduceReplicate, Nat.reduceAdd, Nat.reduceSub, Nat.reduceMul, Nat.reduceLT, Nat.reduceLeDiff, Nat.reduceBEq, Nat.reduceEqDiff]
        exact ⟨rfl, none, C2, R2, List.mem_cons_self, .inr rfl⟩
      | true =>
        simp (config := { maxSteps := 4000000 }) only [↓sx0, ↓sx1, ↓sx2, ↓sx3, ↓sx4, ↓sx5, ↓sx6, sx0, sx1, sx2, sx3, sx4, sx5, sx6, tf160, ev3_hold, sxo, sxc, sxp, sxq, sxr, sxs, sxl, sxm, Int.reduceBEq, Int.reduceBNe, Int.reduceLT, Int.reduceLE, Int.reduceEq, Int.reduceGT, Int.reduceGE, Int.reduceToNat, ↓reduceIte, List.reduceReplicate, Nat.reduceAdd, Nat.reduceSub, Nat.reduceMul, Nat.reduceLT, Nat.reduceLeDiff, Nat.reduceBEq, Nat.reduceEqDiff, e2]
        exact ⟨k + 1, _, rfl, HImp.refl _ _, ⟨by omega, C2, R2, rfl⟩, by omega⟩
    · exact ⟨rfl, some k, C1, R1, List.mem_cons_self, .inl (congrArg some (by omega))⟩
theorem back_fn (w : World) (a : Option Addr) (n c : Nat) : SX.Fn Tryz.prog 134 [.slice a n c] w (fun _ => False) fun r N => ∃ b, r = .func (.func 160) #[] #[.pointer (some ⟨b, 0, none⟩)] ∧ N = [.cells b 83 [.slice a n c]] := by
  refine walk [1] [] (det0_ok _ _) Tryz.func134 rfl Tryz.ntmps134 res134 (by kernel_rfl) no_facts ?_
  simp (config := { maxSteps := 4000000 }) only [↓sx0, ↓sx1, ↓sx2, ↓sx3, ↓sx4, ↓sx5, ↓sx6, sx0, sx1, sx2, sx3, sx4, sx5, sx6, tf134, ev3_hold, sxo, sxc, sxp, sxq, sxr, sxs, sxl, sxm, Int.reduceBEq, Int.reduceBNe, Int.reduceLT, Int.reduceLE, Int.reduceEq, Int.reduceGT, Int.reduceGE, Int.reduceToNat, ↓reduceIte, List.reduceReplicate, Nat.reduceAdd, Nat.reduceSub, Nat.reduceMul, Nat.reduceLT, Nat.reduceLeDiff, Nat.reduceBEq, Nat.reduceEqDiff]
  exact fun b => ⟨b, rfl, rfl⟩
def dragArg (us : List Tw) : Nat → List Value → List HO → Prop := fun k vs F => vs = [I ((us.length - 1 - k : Nat) : Int), .agg #[I (loS us (us.length - 1 - k)), I (hiS us (us.length - 1 - k))]] ∧ F = []
theorem drags_it (w : World) (v : Value) (us : List Tw) (hs : Sl w v 5 (twcs us)) (hok : okT us) : Iter Tryz.prog 132 [.agg #[v]] [] us.length (dragArg us) (fun _ => False) (rsl w v) w := by
  obtain ⟨a, n, c, rfl⟩ := hs.shape
  have hn := hs.le (f := twc) twc_len (by omega)
  have h8 := hok.2.1
  refine walkIterR _ [] [] (fun _ _ => det0_ok _ _) Tryz.func132 rfl Tryz.ntmps132 res132 (by kernel_rfl) fun l J C R hRs hH => ?_
  simp (config := { maxSteps := 4000000 }) only [↓sx0, ↓sx1, ↓sx2, ↓sx3, ↓sx4, ↓sx5, ↓sx6, sx0, sx1, sx2, sx3, sx4, sx5, sx6, tf132, ev3_hold, sxo, sxc, sxp, sxq, sxr, sxs, sxl, sxm, Int.reduceBEq, Int.reduceBNe, Int.reduceLT, Int.reduceLE, Int.reduceEq, Int.reduceGT, Int.reduceGE, Int.reduceToNat, ↓reduceIte, List.reduceReplicate, Nat.reduceAdd, Nat.reduceSub, Nat.reduceMul, Nat.reduceLT, Nat.reduceLeDiff, Nat.reduceBEq, Nat.reduceEqDiff, det0]
  refine CallOb.pure (fun w' hp => back_fn w' a n c) ?_
  rintro r N ⟨b, rfl, rfl⟩
  simp (config := { maxSteps := 4000000 }) only [↓sx0, ↓sx1, ↓sx2, ↓sx3, ↓sx4, ↓sx5, ↓sx6, sx0, sx1, sx2, sx3, sx4, sx5, sx6, tf132, ev3_hold, sxo, sxc, sxp, sxq, sxr, sxs, sxl, sxm, Int.reduceBEq, Int.reduceBNe, Int.reduceLT, Int.reduceLE, Int.reduceEq, Int.reduceGT, Int.reduceGE, Int.reduceToNat, ↓reduceIte, List.reduceReplicate, Nat.reduceAdd, Nat.reduceSub, Nat.reduceMul, Nat.reduceLT, Nat.reduceLeDiff, Nat.reduceBEq, Nat.reduceEqDiff]
  refine range_introR Tryz.call160 n (backArg us) [.cells b 83 [.slice a n c]] [consu J (some 0) C R] (fun k L' H' => ∃ C R, H' = [consu J (some k) C R] ∧ L' = [(170, [.slice a n c]), (245, [.func (.yield l) #[] #[]]), (44, [I (loS us (n - k)), I (hiS us (n - k))])]) (fun x => x = b ∨ rsl w (.slice a n c) x)
    (HImp.refl _ _) (fun x hx => ?_) (fun w' hp => ?_) ⟨C, R, rfl, ?_⟩ ?_ ?_ ?_
  · rcases hx with rfl | hx
    · exact .inr ⟨_, List.mem_singleton.2 rfl, rfl⟩
    · exact .inl ⟨hx.2, hRs x hx⟩
  · have hsz := hp.ext.size
    have := back_it w' b (.slice a n c) us (cells_hp List.mem_cons_self hp) (hs.hpR hRs hp) (by omega)
    rw [hn] at this
    exact this.mono fun x hx => hx.imp id (hs.rsl (by rw [twcs_cat, cat_len twc_len]; have := hok.1; omega))
  · rw [← hn, Nat.sub_zero, loS_end, hiS_end]
  · rintro k vs F ⟨u, _, rfl, _⟩
    try rfl
  · rintro k vs F L' H' hk ⟨u, hu, rfl, rfl⟩ - ⟨C1, R1, rfl, rfl⟩
    simp (config := { maxSteps := 4000000 }) only [↓sx0, ↓sx1, ↓sx2, ↓sx3, ↓sx4, ↓sx5, ↓sx6, sx0, sx1, sx2, sx3, sx4, sx5, sx6, tf132, ev3_hold, sxo, sxc, sxp, sxq, sxr, sxs, sxl, sxm, Int.reduceBEq, Int.reduceBNe, Int.reduceLT, Int.reduceLE, Int.reduceEq, Int.reduceGT, Int.reduceGE, Int.reduceToNat, ↓reduceIte, List.reduceReplicate, Nat.reduceAdd, Nat.reduceSub, Nat.reduceMul, Nat.reduceLT, Nat.reduceLeDiff, Nat.reduceBEq, Nat.reduceEqDiff, twc]
    have hk1 : k < us.length := by omega
    have hkl : us.length - 1 - k < us.length := by omega
    have hue : u = us[us.length - 1 - k] := by rw [List.getElem?_eq_getElem hkl] at hu; exact (Option.some.inj hu).symm
    have el : loS us (us.length - 1 - k) = u.dl + loS us (n - k) := by rw [loS_cons hkl, ← hue, show us.length - 1 - k + 1 = n - k by omega]
    have eh : hiS us (us.length - 1 - k) = u.dh + hiS us (n - k) := by rw [hiS_cons hkl, ← hue, show us.length - 1 - k + 1 = n - k by omega]
    have b1 := loS_bd hok (us.length - 1 - k)
    have b2 := hiS_bd hok (us.length - 1 - k)
    have e1 : IntKind.i64.wrap (loS us (n - k) + u.dl) = loS us (us.length - 1 - k) := (wrap_id (by omega)).trans (by omega)
    have e2 : IntKind.i64.wrap (hiS us (n - k) + u.dh) = hiS us (us.length - 1 - k) := (wrap_id (by omega)).trans (by omega)
    rw [e1, e2]
    refine CallOb.yield hH (k := k) hk1 (F := []) (B := []) (HImp.refl _ _) (List.Sublist.refl _) ⟨rfl, rfl⟩ (by simp) (fun _ _ b ⟨x, hx, _⟩ => by cases hx) fun t C2 R2 => ?_
    cases t with
    | false =>
      simp (config := { maxSteps := 4000000 }) only [↓sx0, ↓sx1, ↓sx2, ↓sx3, ↓sx4, ↓sx5, ↓sx6, sx0, sx1, sx2, sx3, sx4, sx5, sx6, tf132, ev3_hold, sxo, sxc, sxp, sxq, sxr, sxs, sxl, sxm, Int.reduceBEq, Int.reduceBNe, Int.reduceLT, Int.reduceLE, Int.reduceEq, Int.reduceGT, Int.reduceGE, Int.reduceToNat, ↓reduceIte, List.reduceReplicate, Nat.reduceAdd, Nat.reduceSub, Nat.reduceMul, Nat.reduceLT, Nat.reduceLeDiff, Nat.reduceBEq, Nat.reduceEqDiff]
      exact ⟨_, HImp.refl _ _, rfl, none, C2, R2, List.mem_cons_self, .inr rfl⟩
    | true =>
      simp (config := { maxSteps := 4000000 }) only [↓sx0, ↓sx1, ↓sx2, ↓sx3, ↓sx4, ↓sx5, ↓sx6, sx0, sx1, sx2, sx3, sx4, sx5, sx6, tf132, ev3_hold, sxo, sxc, sxp, sxq, sxr, sxs, sxl, sxm, Int.reduceBEq, Int.reduceBNe, Int.reduceLT, Int.reduceLE, Int.reduceEq, Int.reduceGT, Int.reduceGE, Int.reduceToNat, ↓reduceIte, List.reduceReplicate, Nat.reduceAdd, Nat.reduceSub, Nat.reduceMul, Nat.reduceLT, Nat.reduceLeDiff, Nat.reduceBEq, Nat.reduceEqDiff]
      exact ⟨_, HImp.refl _ _, C2, R2, rfl, by rw [show n - (k + 1) = us.length - 1 - k by omega]⟩
  · rintro L' H' - ⟨C1, R1, rfl, rfl⟩
    simp (config := { maxSteps := 4000000 }) only [↓sx0, ↓sx1, ↓sx2, ↓sx3, ↓sx4, ↓sx5, ↓sx6, sx0, sx1, sx2, sx3, sx4, sx5, sx6, tf132, ev3_hold, sxo, sxc, sxp, sxq, sxr, sxs, sxl, sxm, Int.reduceBEq, Int.reduceBNe, Int.reduceLT, Int.reduceLE, Int.reduceEq, Int.reduceGT, Int.reduceGE, Int.reduceToNat, ↓reduceIte, List.reduceReplicate, Nat.reduceAdd, Nat.reduceSub, Nat.reduceMul, Nat.reduceLT, Nat.reduceLeDiff, Nat.reduceBEq, Nat.reduceEqDiff]
    exact ⟨rfl, _, C1, R1, List.mem_cons_self, .inl (by rw [hn])⟩
abbrev bV (u : Tw) (v d : Int) := boundsV u.len u.mass u.str v d
def sureL (v d : Int) : List Tw → Bool
  | [] => true
  | u :: r => sureL v d r && ((bV u v d).2 && (decide ((bV u v d).1.1 ≤ loS (u :: r) 0) && decide (hiS (u :: r) 0 ≤ (bV u v d).1.2)))
def canStep (v d : Int) (u : Tw) (c : Int × Int) : Option (Int × Int) :=
  if (bV u v d).2 = true ∧ ¬ max (wr (c.1 + u.dl)) (bV u v d).1.1 > min (wr (c.2 + u.dh)) (bV u v d).1.2 then some (max (wr (c.1 + u.dl)) (bV u v d).1.1, min (wr (c.2 + u.dh)) (bV u v d).1.2) else none
def canL (v d : Int) : List Tw → Option (Int × Int)
  | [] => some (0, 0)
  | u :: r => (canL v d r).bind (canStep v d u)
theorem bounds_pre {u : Tw} {v d : Int} (hv : 1 ≤ v ∧ v ≤ 20) (hd : 0 ≤ d ∧ d ≤ 1000) : wr (v * v) ≠ 0 ∧ (u.mass > 0 → d ≠ 0 → wr (wr (wr (8 * v) * v) * d) ≠ 0) := by
  have e1 : 1 ≤ v * v := by have := Int.mul_le_mul hv.1 hv.1 (by omega) (by omega); omega
  have e2 : v * v ≤ 400 := by have := Int.mul_le_mul hv.2 hv.2 (by omega) (by omega); omega
  have w1 : wr (v * v) = v * v := wrap_id (by omega)
  have w2 : wr (8 * v) = 8 * v := wrap_id (by omega)
  have w3 : wr (8 * v * v) = 8 * (v * v) := (wrap_id (by rw [Int.mul_assoc]; omega)).trans (Int.mul_assoc _ _ _)
  refine ⟨by omega, fun _ hd0 => ?_⟩
  rw [w2, w3]
  have e3 : 1 ≤ d := by omega
  have e4 : 8 ≤ 8 * (v * v) * d := by have := Int.mul_le_mul (show 8 ≤ 8 * (v * v) by omega) e3 (by omega) (by omega); omega
  have e5 : 8 * (v * v) * d ≤ 3200000 := by have := Int.mul_le_mul (show 8 * (v * v) ≤ 3200 by omega) hd.2 (by omega) (by omega); omega
  have w4 : wr (8 * (v * v) * d) = 8 * (v * v) * d := wrap_id (by omega)
  omega
theorem sureL_drop {v d : Int} {us : List Tw} {i : Nat} (h : i < us.length) : sureL v d (us.drop i) = (sureL v d (us.drop (i + 1)) && ((bV us[i] v d).2 && (decide ((bV us[i] v d).1.1 ≤ loS us i) && decide (hiS us i ≤ (bV us[i] v d).1.2)))) := by
  have e : us.drop i = us[i] :: us.drop (i + 1) := List.drop_eq_getElem_cons h
  have el : loS (us[i] :: us.drop (i + 1)) 0 = loS us i := by rw [← e]; simp [loS]
  have eh : hiS (us[i] :: us.drop (i + 1)) 0 = hiS us i := by rw [← e]; simp [hiS]
  rw [e, sureL, el, eh]
theorem canL_drop {v d : Int} {us : List Tw} {i : Nat} (h : i < us.length) : canL v d (us.drop i) = (canL v d (us.drop (i + 1))).bind (canStep v d us[i]) := by
  rw [List.drop_eq_getElem_cons h, canL]
theorem canL_none {v d : Int} {us : List Tw} {i : Nat} (h : canL v d (us.drop i) = none) : canL v d us = none := by
  induction i with
  | zero => simpa using h
  | succ i ih =>
    refine ih ?_
    by_cases hi : i < us.length
    · rw [canL_drop hi, h]
      try rfl
    · rw [List.drop_of_length_le (by omega)] at h ⊢
      exact h
theorem tows_fn (w : World) (s : Value) (us : List Tw) (v d : Int) (hs : Sl w s 5 (twcs us)) (hok : okT us) (hv : 1 ≤ v ∧ v ≤ 20) (hd : 0 ≤ d ∧ d ≤ 1000) :
    SX.Fn Tryz.prog 86 [.agg #[s], I v, I d] w (fun _ => False) fun r N => r = .tuple #[.bool (sureL v d us), .bool (canL v d us).isSome] := by
  obtain ⟨a, n, c, rfl⟩ := hs.shape
  have hn := hs.le (f := twc) twc_len (by omega)
  have h8 := hok.2.1
  have hr := hs.rd0
  have hD := detF_ok (X := fun _ => False) hs (fun _ _ => id)
  refine walk [] [(5, (ones [0, 1, 2, 3, 4, 5, 6, 7, 8] (.alt 9 (ones [10, 11, 12, 13, 14, 15] .fin) (.alt 13 (ones [9, 10, 11, 12, 14, 15] .fin) .no)))), (11, (ones [0, 1, 2, 3, 4, 5, 6, 7, 8] (.alt 9 (ones [10, 11, 12, 13, 14, 15] .fin) (.alt 13 (ones [9, 10, 11, 12, 14, 15] .fin) .no))))] hD Tryz.func86 rfl Tryz.ntmps86 res86 (by kernel_rfl) no_facts ?_
  simp (config := { maxSteps := 4000000 }) only [↓sx0, ↓sx1, ↓sx2, ↓sx3, ↓sx4, ↓sx5, ↓sx6, sx0, sx1, sx2, sx3, sx4, sx5, sx6, tf86, ev3_hold, sxo, sxc, sxp, sxq, sxr, sxs, sxl, sxm, Int.reduceBEq, Int.reduceBNe, Int.reduceLT, Int.reduceLE, Int.reduceEq, Int.reduceGT, Int.reduceGE, Int.reduceToNat, ↓reduceIte, List.reduceReplicate, Nat.reduceAdd, Nat.reduceSub, Nat.reduceMul, Nat.reduceLT, Nat.reduceLeDiff, Nat.reduceBEq, Nat.reduceEqDiff]
  refine range_introR Tryz.call132 n (dragArg us) [] [] (fun k L' H' => H' = [] ∧ L' = [(170, [.slice a n c]), (3, [I v]), (3, [I d]), (4, [.bool (sureL v d (us.drop (n - k)))]), (4, [.bool false])]) (rsl w (.slice a n c))
    (HImp.refl _ _) (fun x hx => .inl ⟨hx.2, id⟩) (fun w' hp => ?_) ⟨rfl, ?_⟩ ?_ ?_ ?_
  · have := drags_it w' (.slice a n c) us (hs.hpR (fun _ _ => id) hp) hok
    rw [hn] at this
    exact this.mono fun x hx => hs.rsl (by rw [twcs_cat, cat_len twc_len]; have := hok.1; omega) hx
  · rw [Nat.sub_zero, List.drop_of_length_le (by omega)]
    try rfl
  · rintro k vs F ⟨rfl, _⟩
    try rfl
  · rintro k vs F L' H' hk ⟨rfl, rfl⟩ - ⟨rfl, rfl⟩
    have hkl : us.length - 1 - k < us.length := by omega
    have hb := bounds_pre (u := us[us.length - 1 - k]) hv hd
    have hdet := detF_bounds us (.slice a n c) (a := us[us.length - 1 - k].len) (c := us[us.length - 1 - k].str) hb.1 hb.2
    have hsl := sureL_drop (v := v) (d := d) hkl
    rw [show us.length - 1 - k + 1 = n - k by omega] at hsl
    have hsl' : sureL v d (us.drop (n - (k + 1))) = sureL v d (us.drop (us.length - 1 - k)) := by rw [show n - (k + 1) = us.length - 1 - k by omega]
    simp (config := { maxSteps := 4000000 }) only [↓sx0, ↓sx1, ↓sx2, ↓sx3, ↓sx4, ↓sx5, ↓sx6, sx0, sx1, sx2, sx3, sx4, sx5, sx6, tf86, ev3_hold, sxo, sxc, sxp, sxq, sxr, sxs, sxl, sxm, Int.reduceBEq, Int.reduceBNe, Int.reduceLT, Int.reduceLE, Int.reduceEq, Int.reduceGT, Int.reduceGE, Int.reduceToNat, ↓reduceIte, List.reduceReplicate, Nat.reduceAdd, Nat.reduceSub, Nat.reduceMul, Nat.reduceLT, Nat.reduceLeDiff, Nat.reduceBEq, Nat.reduceEqDiff]
    refine at_p [I us[us.length - 1 - k].len, I us[us.length - 1 - k].mass, I us[us.length - 1 - k].str] (hr _) twc_len (List.getElem?_eq_getElem hkl) rfl rfl (by omega) fun ad => ?_
    simp (config := { maxSteps := 4000000 }) only [↓sx0, ↓sx1, ↓sx2, ↓sx3, ↓sx4, ↓sx5, ↓sx6, sx0, sx1, sx2, sx3, sx4, sx5, sx6, tf86, ev3_hold, sxo, sxc, sxp, sxq, sxr, sxs, sxl, sxm, Int.reduceBEq, Int.reduceBNe, Int.reduceLT, Int.reduceLE, Int.reduceEq, Int.reduceGT, Int.reduceGE, Int.reduceToNat, ↓reduceIte, List.reduceReplicate, Nat.reduceAdd, Nat.reduceSub, Nat.reduceMul, Nat.reduceLT, Nat.reduceLeDiff, Nat.reduceBEq, Nat.reduceEqDiff, hdet]
    refine ⟨fun h1 => ⟨fun h2 => ⟨fun h3 => ⟨_, HImp.refl _ _, rfl, ?_⟩, fun h3 => ⟨_, HImp.refl _ _, rfl, ?_⟩⟩, fun h2 => ⟨_, HImp.refl _ _, rfl, ?_⟩⟩, fun h1 => ⟨_, HImp.refl _ _, rfl, ?_⟩⟩
    · rw [hsl', hsl]
      simp [h1, h2, h3]
    · rw [hsl', hsl]
      simp [h1, h2, h3]
    · rw [hsl', hsl]
      simp [h1, h2]
    · rw [hsl', hsl]
      simp [h1]
  · rintro L' H' - ⟨rfl, rfl⟩
    rw [Nat.sub_self, List.drop_zero]
    have hd2 : ∀ xs, detF (.slice a n c) us 134 xs = none := fun _ => rfl
    simp (config := { maxSteps := 4000000 }) only [↓sx0, ↓sx1, ↓sx2, ↓sx3, ↓sx4, ↓sx5, ↓sx6, sx0, sx1, sx2, sx3, sx4, sx5, sx6, tf86, ev3_hold, sxo, sxc, sxp, sxq, sxr, sxs, sxl, sxm, Int.reduceBEq, Int.reduceBNe, Int.reduceLT, Int.reduceLE, Int.reduceEq, Int.reduceGT, Int.reduceGE, Int.reduceToNat, ↓reduceIte, List.reduceReplicate, Nat.reduceAdd, Nat.reduceSub, Nat.reduceMul, Nat.reduceLT, Nat.reduceLeDiff, Nat.reduceBEq, Nat.reduceEqDiff, hd2]
    refine CallOb.pure (fun w' hp => back_fn w' a n c) ?_
    rintro r N ⟨b, rfl, rfl⟩
    simp (config := { maxSteps := 4000000 }) only [↓sx0, ↓sx1, ↓sx2, ↓sx3, ↓sx4, ↓sx5, ↓sx6, sx0, sx1, sx2, sx3, sx4, sx5, sx6, tf86, ev3_hold, sxo, sxc, sxp, sxq, sxr, sxs, sxl, sxm, Int.reduceBEq, Int.reduceBNe, Int.reduceLT, Int.reduceLE, Int.reduceEq, Int.reduceGT, Int.reduceGE, Int.reduceToNat, ↓reduceIte, List.reduceReplicate, Nat.reduceAdd, Nat.reduceSub, Nat.reduceMul, Nat.reduceLT, Nat.reduceLeDiff, Nat.reduceBEq, Nat.reduceEqDiff]
    refine range_introR Tryz.call160 n (backArg us) [.cells b 83 [.slice a n c]] [] (fun k L' H' => H' = [] ∧ ∃ e : Int × Int, canL v d (us.drop (n - k)) = some e ∧ L' = [(170, [.slice a n c]), (3, [I v]), (3, [I d]), (4, [.bool (sureL v d us)]), (4, [.bool false]), (44, [I e.1, I e.2])]) (fun x => x = b ∨ rsl w (.slice a n c) x)
      (HImp.refl _ _) (fun x hx => ?_) (fun w' hp => ?_) ⟨rfl, (0, 0), ?_, rfl⟩ ?_ ?_ ?_
    · rcases hx with rfl | hx
      · exact .inr ⟨_, List.mem_singleton.2 rfl, rfl⟩
      · exact .inl ⟨hx.2, id⟩
    · have := back_it w' b (.slice a n c) us (cells_hp List.mem_cons_self hp) (hs.hpR (fun _ _ => id) hp) (by omega)
      rw [hn] at this
      exact this.mono fun x hx => hx.imp id (hs.rsl (by rw [twcs_cat, cat_len twc_len]; have := hok.1; omega))
    · rw [Nat.sub_zero, List.drop_of_length_le (by omega)]
      try rfl
    · rintro k vs F ⟨u, _, rfl, _⟩
      try rfl
    · rintro k vs F L' H' hk ⟨u, hu, rfl, rfl⟩ - ⟨rfl, e, he, rfl⟩
      have hkl : us.length - 1 - k < us.length := by omega
      have hue : u = us[us.length - 1 - k] := by rw [List.getElem?_eq_getElem hkl] at hu; exact (Option.some.inj hu).symm
      have hb := bounds_pre (u := u) hv hd
      have hdet := detF_bounds us (.slice a n c) (a := u.len) (c := u.str) hb.1 hb.2
      have hcl := canL_drop (v := v) (d := d) hkl
      rw [show us.length - 1 - k + 1 = n - k by omega, he, ← hue] at hcl
      have hcl' : n - (k + 1) = us.length - 1 - k := by omega
      simp only [Option.bind] at hcl
      simp (config := { maxSteps := 4000000 }) only [↓sx0, ↓sx1, ↓sx2, ↓sx3, ↓sx4, ↓sx5, ↓sx6, sx0, sx1, sx2, sx3, sx4, sx5, sx6, tf86, ev3_hold, sxo, sxc, sxp, sxq, sxr, sxs, sxl, sxm, Int.reduceBEq, Int.reduceBNe, Int.reduceLT, Int.reduceLE, Int.reduceEq, Int.reduceGT, Int.reduceGE, Int.reduceToNat, ↓reduceIte, List.reduceReplicate, Nat.reduceAdd, Nat.reduceSub, Nat.reduceMul, Nat.reduceLT, Nat.reduceLeDiff, Nat.reduceBEq, Nat.reduceEqDiff, twc]
      refine at_p [I u.len, I u.mass, I u.str] (hr _) twc_len hu rfl rfl (by omega) fun ad => ?_
      simp (config := { maxSteps := 4000000 }) only [↓sx0, ↓sx1, ↓sx2, ↓sx3, ↓sx4, ↓sx5, ↓sx6, sx0, sx1, sx2, sx3, sx4, sx5, sx6, tf86, ev3_hold, sxo, sxc, sxp, sxq, sxr, sxs, sxl, sxm, Int.reduceBEq, Int.reduceBNe, Int.reduceLT, Int.reduceLE, Int.reduceEq, Int.reduceGT, Int.reduceGE, Int.reduceToNat, ↓reduceIte, List.reduceReplicate, Nat.reduceAdd, Nat.reduceSub, Nat.reduceMul, Nat.reduceLT, Nat.reduceLeDiff, Nat.reduceBEq, Nat.reduceEqDiff, hdet]
      have nn : ∀ x : Option (Int × Int), canStep v d u e = x → canL v d (us.drop (n - (k + 1))) = x := fun x h => by rw [hcl', hcl, h]
      refine ⟨fun h1 => ⟨fun h2 => ⟨_, HImp.refl _ _, ?_⟩, fun h2 => ⟨_, HImp.refl _ _, rfl, _, nn _ (if_pos ⟨h1, h2⟩), rfl⟩⟩, fun h1 => ⟨_, HImp.refl _ _, ?_⟩⟩
      · rw [canL_none (nn none (if_neg fun h => h.2 h2))]
        try rfl
      · rw [canL_none (nn none (if_neg fun h => by rw [h1] at h; cases h.1))]
        try rfl
    · rintro L' H' - ⟨rfl, e, he, rfl⟩
      rw [Nat.sub_self, List.drop_zero] at he
      simp (config := { maxSteps := 4000000 }) only [↓sx0, ↓sx1, ↓sx2, ↓sx3, ↓sx4, ↓sx5, ↓sx6, sx0, sx1, sx2, sx3, sx4, sx5, sx6, tf86, ev3_hold, sxo, sxc, sxp, sxq, sxr, sxs, sxl, sxm, Int.reduceBEq, Int.reduceBNe, Int.reduceLT, Int.reduceLE, Int.reduceEq, Int.reduceGT, Int.reduceGE, Int.reduceToNat, ↓reduceIte, List.reduceReplicate, Nat.reduceAdd, Nat.reduceSub, Nat.reduceMul, Nat.reduceLT, Nat.reduceLeDiff, Nat.reduceBEq, Nat.reduceEqDiff, he]
open Classical in
noncomputable def detG (s : Value) (us : List Tw) : Nat → List Value → Option Value
  | 86, [x, .int .i64 v, .int .i64 d] => if x = .agg #[s] ∧ okT us ∧ (1 ≤ v ∧ v ≤ 20) ∧ 0 ≤ d ∧ d ≤ 1000 then some (.tuple #[.bool (sureL v d us), .bool (canL v d us).isSome]) else none
  | g, xs => detF s us g xs
theorem detG_ok {v : Value} {us : List Tw} {w0 : World} {X : Nat → Prop} (hs : Sl w0 v 5 (twcs us)) (hX : ∀ b, rsl w0 v b → ¬ X b) : DetFn Tryz.prog ⟨w0, X⟩ (detG v us) := by
  intro g args r h w hk
  have hs' := hs.keepR hk hX
  unfold detG at h
  split at h
  · split at h
    · rename_i hc
      obtain ⟨rfl, hok, hv, hd⟩ := hc
      cases h
      exact det_of_fn' (tows_fn w _ us _ _ hs' hok hv hd)
    · cases h
  · exact detF_ok hs hX _ _ _ h w hk
theorem detG_eq (v : Value) (us : List Tw) : (detG v us 85 [.agg #[v]] = some (I (if trainB us then 0 else 90))) ∧
    (∀ n l h : Int, detG v us 72 [I n, I l, I h] = some (.bool (inB n l h))) := ⟨by simp [detG, detF], fun _ _ _ => rfl⟩
theorem detG_tows {s : Value} {us : List Tw} {v d : Int} (hok : okT us) (hv : 1 ≤ v ∧ v ≤ 20) (hd : 0 ≤ d ∧ d ≤ 1000) : detG s us 86 [.agg #[s], I v, I d] = some (.tuple #[.bool (sureL v d us), .bool (canL v d us).isSome]) :=
  if_pos ⟨rfl, hok, hv, hd⟩
def upTo (p : Int → Bool) : Nat → List Int
  | 0 => []
  | k + 1 => if p ((k + 1 : Nat) : Int) then upTo p k ++ [((k + 1 : Nat) : Int)] else upTo p k
theorem upTo_len (p : Int → Bool) (k : Nat) : (upTo p k).length ≤ k := by
  induction k with
  | zero => simp [upTo]
  | succ k ih =>
    unfold upTo
    split
    · simp; omega
    · omega
def sureF (us : List Tw) (d : Int) : List Int := upTo (fun v => sureL v d us) 20
def mayF (us : List Tw) (d : Int) : List Int := upTo (fun v => (canL v d us).isSome) 20
def speedsE (us : List Tw) (d : Int) : Int := if trainB us then (if inB d 0 1000 then 0 else 1) else 90
def sureR (us : List Tw) (d : Int) : List Int := if speedsE us d = 0 then sureF us d else []
def mayR (us : List Tw) (d : Int) : List Int := if speedsE us d = 0 then mayF us d else []
theorem speeds_fn (w : World) (s : Value) (us : List Tw) (d : Int) (hs : Sl w s 5 (twcs us)) :
    SX.Fn Tryz.prog 39 [.agg #[s], I d] w (fun _ => False) fun r N => ∃ x y, r = .tuple #[x, y, I (speedsE us d)] ∧ Got x 3 1 i1 (sureR us d) N ∧ Got y 3 1 i1 (mayR us d) N := by
  obtain ⟨a, n, c, rfl⟩ := hs.shape
  have hn := hs.le (f := twc) twc_len (by omega)
  have hD := detG_ok (X := fun _ => False) hs (fun _ _ => id)
  refine walk [] [] hD Tryz.func39 rfl Tryz.ntmps39 res39 (by kernel_rfl) no_facts ?_
  by_cases ht : trainB us = true
  · by_cases hd : inB d 0 1000 = true
    · have he : speedsE us d = 0 := by simp [speedsE, ht, hd]
      have hok := (train_iff us).1 ht
      have hd' : 0 ≤ d ∧ d ≤ 1000 := by simpa [inB] using hd
      simp (config := { maxSteps := 4000000 }) only [↓sx0, ↓sx1, ↓sx2, ↓sx3, ↓sx4, ↓sx5, ↓sx6, sx0, sx1, sx2, sx3, sx4, sx5, sx6, tf39, ev3_hold, sxo, sxc, sxp, sxq, sxr, sxs, sxl, sxm, Int.reduceBEq, Int.reduceBNe, Int.reduceLT, Int.reduceLE, Int.reduceEq, Int.reduceGT, Int.reduceGE, Int.reduceToNat, ↓reduceIte, List.reduceReplicate, Nat.reduceAdd, Nat.reduceSub, Nat.reduceMul, Nat.reduceLT, Nat.reduceLeDiff, Nat.reduceBEq, Nat.reduceEqDiff, detG_eq, ht, hd]
      refine loop_constI [.row (.slice none 0 0) 3 1 (ints []), .row (.slice none 0 0) 3 1 (ints [])] ((HImp.nilRow _ _ _ _).trans (HImp.nilRow _ _ _ _)) [(4, 5), (7, 9), (16, 37)] (fun p : Nat × Value × Value => [(7, I ((p.1 : Int) + 1)), (4, p.2.1), (5, p.2.2)])
        (fun p H1 => p.1 ≤ 20 ∧ ∃ adx cx ady cy, p.2.1 = .slice adx (upTo (fun v => sureL v d us) p.1).length cx ∧ p.2.2 = .slice ady (upTo (fun v => (canL v d us).isSome) p.1).length cy ∧ (adx = none → upTo (fun v => sureL v d us) p.1 = []) ∧ (ady = none → upTo (fun v => (canL v d us).isSome) p.1 = []) ∧
          H1 = [.row p.2.1 3 1 (ints (upTo (fun v => sureL v d us) p.1)), .row p.2.2 3 1 (ints (upTo (fun v => (canL v d us).isSome) p.1))]) (fun p => 20 - p.1) (0, .slice none 0 0, .slice none 0 0) ?_ ⟨by decide, none, 0, none, 0, rfl, rfl, fun _ => rfl, fun _ => rfl, rfl⟩ ?_
      · simp (config := { maxSteps := 4000000 }) only [↓sx0, ↓sx1, ↓sx2, ↓sx3, ↓sx4, ↓sx5, ↓sx6, sx0, sx1, sx2, sx3, sx4, sx5, sx6, tf39, ev3_hold, sxo, sxc, sxp, sxq, sxr, sxs, sxl, sxm, Int.reduceBEq, Int.reduceBNe, Int.reduceLT, Int.reduceLE, Int.reduceEq, Int.reduceGT, Int.reduceGE, Int.reduceToNat, ↓reduceIte, List.reduceReplicate, Nat.reduceAdd, Nat.reduceSub, Nat.reduceMul, Nat.reduceLT, Nat.reduceLeDiff, Nat.reduceBEq, Nat.reduceEqDiff]
        simp
      · rintro ⟨k, x, y⟩ H1 g hinv
        simp only [] at hinv
        obtain ⟨hk, adx, cx, ady, cy, rfl, rfl, hx0, hy0, rfl⟩ := hinv
        have hlx := upTo_len (fun v => sureL v d us) k
        have hly := upTo_len (fun v => (canL v d us).isSome) k
        by_cases hk20 : k = 20
        · subst hk20
          simp (config := { maxSteps := 4000000 }) only [↓sx0, ↓sx1, ↓sx2, ↓sx3, ↓sx4, ↓sx5, ↓sx6, sx0, sx1, sx2, sx3, sx4, sx5, sx6, tf39, ev3_hold, sxo, sxc, sxp, sxq, sxr, sxs, sxl, sxm, Int.reduceBEq, Int.reduceBNe, Int.reduceLT, Int.reduceLE, Int.reduceEq, Int.reduceGT, Int.reduceGE, Int.reduceToNat, ↓reduceIte, List.reduceReplicate, Nat.reduceAdd, Nat.reduceSub, Nat.reduceMul, Nat.reduceLT, Nat.reduceLeDiff, Nat.reduceBEq, Nat.reduceEqDiff]
          refine ⟨fun h => absurd h (by decide), fun _ => ⟨_, _, by rw [he], ?_, ?_⟩⟩
          · rw [sureR, if_pos he]; exact Got.row rfl List.mem_cons_self hx0
          · rw [mayR, if_pos he]; exact Got.row rfl (List.mem_cons_of_mem _ List.mem_cons_self) hy0
        · have e3 := detG_tows (s := .slice a n c) (v := (k : Int) + 1) hok ⟨by omega, by omega⟩ hd'
          have e4 : wr ((k : Int) + 1 + 1) = ((k + 1 : Nat) : Int) + 1 := (wrap_id (by omega)).trans (by omega)
          have e5 : (k : Int) + 1 ≤ 20 := by omega
          have e6 : ((k + 1 : Nat) : Int) = (k : Int) + 1 := by omega
          have uS : ∀ p : Int → Bool, upTo p (k + 1) = if p ((k : Int) + 1) then upTo p k ++ [(k : Int) + 1] else upTo p k := fun p => by rw [upTo, e6]
          simp (config := { maxSteps := 4000000 }) only [↓sx0, ↓sx1, ↓sx2, ↓sx3, ↓sx4, ↓sx5, ↓sx6, sx0, sx1, sx2, sx3, sx4, sx5, sx6, tf39, ev3_hold, sxo, sxc, sxp, sxq, sxr, sxs, sxl, sxm, Int.reduceBEq, Int.reduceBNe, Int.reduceLT, Int.reduceLE, Int.reduceEq, Int.reduceGT, Int.reduceGE, Int.reduceToNat, ↓reduceIte, List.reduceReplicate, Nat.reduceAdd, Nat.reduceSub, Nat.reduceMul, Nat.reduceLT, Nat.reduceLeDiff, Nat.reduceBEq, Nat.reduceEqDiff, e3, e4, e5]
          refine ⟨fun h1 b => ?_, fun h1 => ?_⟩
          · refine app_one ((k : Int) + 1) (HImp.refl _ _) i1_len i1_one (by omega) fun ad1 c1 => ?_
            simp (config := { maxSteps := 4000000 }) only [↓sx0, ↓sx1, ↓sx2, ↓sx3, ↓sx4, ↓sx5, ↓sx6, sx0, sx1, sx2, sx3, sx4, sx5, sx6, tf39, ev3_hold, sxo, sxc, sxp, sxq, sxr, sxs, sxl, sxm, Int.reduceBEq, Int.reduceBNe, Int.reduceLT, Int.reduceLE, Int.reduceEq, Int.reduceGT, Int.reduceGE, Int.reduceToNat, ↓reduceIte, List.reduceReplicate, Nat.reduceAdd, Nat.reduceSub, Nat.reduceMul, Nat.reduceLT, Nat.reduceLeDiff, Nat.reduceBEq, Nat.reduceEqDiff, e4]
            refine ⟨fun h2 b2 => ?_, fun h2 => ?_⟩
            · refine app_one ((k : Int) + 1) (HImp.swap _ _ _ _) i1_len i1_one (by omega) fun ad2 c2 => ?_
              simp (config := { maxSteps := 4000000 }) only [↓sx0, ↓sx1, ↓sx2, ↓sx3, ↓sx4, ↓sx5, ↓sx6, sx0, sx1, sx2, sx3, sx4, sx5, sx6, tf39, ev3_hold, sxo, sxc, sxp, sxq, sxr, sxs, sxl, sxm, Int.reduceBEq, Int.reduceBNe, Int.reduceLT, Int.reduceLE, Int.reduceEq, Int.reduceGT, Int.reduceGE, Int.reduceToNat, ↓reduceIte, List.reduceReplicate, Nat.reduceAdd, Nat.reduceSub, Nat.reduceMul, Nat.reduceLT, Nat.reduceLeDiff, Nat.reduceBEq, Nat.reduceEqDiff, e4]
              refine ⟨(k + 1, _, _), _, ⟨rfl, rfl, rfl⟩, HImp.swap _ _ _ _, ⟨by simp only []; omega, some ad1, c1, some ad2, c2, ?_, ?_, by simp, by simp, ?_⟩, by simp only []; omega⟩
              · simp only [uS, h1, if_true, List.length_append, List.length_cons, List.length_nil]
              · simp only [uS, h2, if_true, List.length_append, List.length_cons, List.length_nil]
              · simp only [uS, h1, h2, if_true]
            · refine ⟨(k + 1, _, _), _, ⟨rfl, rfl, rfl⟩, HImp.refl _ _, ⟨by simp only []; omega, some ad1, c1, ady, cy, ?_, ?_, by simp, ?_, ?_⟩, by simp only []; omega⟩
              · simp only [uS, h1, if_true, List.length_append, List.length_cons, List.length_nil]
              · simp only [uS, h2, Bool.false_eq_true, if_false]
              · simpa only [uS, h2, Bool.false_eq_true, if_false] using hy0
              · simp only [uS, h1, h2, if_true, Bool.false_eq_true, if_false]
          · refine ⟨fun h2 b2 => ?_, fun h2 => ?_⟩
            · refine app_one ((k : Int) + 1) (HImp.swap _ _ _ _) i1_len i1_one (by omega) fun ad2 c2 => ?_
              simp (config := { maxSteps := 4000000 }) only [↓sx0, ↓sx1, ↓sx2, ↓sx3, ↓sx4, ↓sx5, ↓sx6, sx0, sx1, sx2, sx3, sx4, sx5, sx6, tf39, ev3_hold, sxo, sxc, sxp, sxq, sxr, sxs, sxl, sxm, Int.reduceBEq, Int.reduceBNe, Int.reduceLT, Int.reduceLE, Int.reduceEq, Int.reduceGT, Int.reduceGE, Int.reduceToNat, ↓reduceIte, List.reduceReplicate, Nat.reduceAdd, Nat.reduceSub, Nat.reduceMul, Nat.reduceLT, Nat.reduceLeDiff, Nat.reduceBEq, Nat.reduceEqDiff, e4]
              refine ⟨(k + 1, _, _), _, ⟨rfl, rfl, rfl⟩, HImp.swap _ _ _ _, ⟨by simp only []; omega, adx, cx, some ad2, c2, ?_, ?_, ?_, by simp, ?_⟩, by simp only []; omega⟩
              · simp only [uS, h1, Bool.false_eq_true, if_false]
              · simp only [uS, h2, if_true, List.length_append, List.length_cons, List.length_nil]
              · simpa only [uS, h1, Bool.false_eq_true, if_false] using hx0
              · simp only [uS, h1, h2, if_true, Bool.false_eq_true, if_false]
            · refine ⟨(k + 1, _, _), _, ⟨rfl, rfl, rfl⟩, HImp.refl _ _, ⟨by simp only []; omega, adx, cx, ady, cy, ?_, ?_, ?_, ?_, ?_⟩, by simp only []; omega⟩
              · simp only [uS, h1, Bool.false_eq_true, if_false]
              · simp only [uS, h2, Bool.false_eq_true, if_false]
              · simpa only [uS, h1, Bool.false_eq_true, if_false] using hx0
              · simpa only [uS, h2, Bool.false_eq_true, if_false] using hy0
              · simp only [uS, h1, h2, Bool.false_eq_true, if_false]
    · have he : speedsE us d = 1 := by simp [speedsE, ht, hd]
      simp (config := { maxSteps := 4000000 }) only [↓sx0, ↓sx1, ↓sx2, ↓sx3, ↓sx4, ↓sx5, ↓sx6, sx0, sx1, sx2, sx3, sx4, sx5, sx6, tf39, ev3_hold, sxo, sxc, sxp, sxq, sxr, sxs, sxl, sxm, Int.reduceBEq, Int.reduceBNe, Int.reduceLT, Int.reduceLE, Int.reduceEq, Int.reduceGT, Int.reduceGE, Int.reduceToNat, ↓reduceIte, List.reduceReplicate, Nat.reduceAdd, Nat.reduceSub, Nat.reduceMul, Nat.reduceLT, Nat.reduceLeDiff, Nat.reduceBEq, Nat.reduceEqDiff, detG_eq, ht, hd]
      exact ⟨_, _, by rw [he], by rw [sureR, if_neg (by omega)]; exact Got.nil _, by rw [mayR, if_neg (by omega)]; exact Got.nil _⟩
  · have he : speedsE us d = 90 := by simp [speedsE, ht]
    simp (config := { maxSteps := 4000000 }) only [↓sx0, ↓sx1, ↓sx2, ↓sx3, ↓sx4, ↓sx5, ↓sx6, sx0, sx1, sx2, sx3, sx4, sx5, sx6, tf39, ev3_hold, sxo, sxc, sxp, sxq, sxr, sxs, sxl, sxm, Int.reduceBEq, Int.reduceBNe, Int.reduceLT, Int.reduceLE, Int.reduceEq, Int.reduceGT, Int.reduceGE, Int.reduceToNat, ↓reduceIte, List.reduceReplicate, Nat.reduceAdd, Nat.reduceSub, Nat.reduceMul, Nat.reduceLT, Nat.reduceLeDiff, Nat.reduceBEq, Nat.reduceEqDiff, detG_eq, ht]
    exact ⟨_, _, by rw [he], by rw [sureR, if_neg (by omega)]; exact Got.nil _, by rw [mayR, if_neg (by omega)]; exact Got.nil _⟩
end Go.Proofs.YtpmodggfogahhaaGreatDoor.Tw

