/- Parts of a proof: the symbolic walk and what it shows of single functions. -/
import Derived.Test.YtlbcgkoncnablaaK4
import Derived.Test.YtlbcgkoncnablaaK3
import Derived.Test.YtlbcgkoncnablaaK5
import Derived.Test.YtlbcgkoncnablaaX3
set_option linter.all false
namespace Go.Proofs.Ytlbcgkoncnablaa
open Go.RowKit Go.SX
set_option maxRecDepth 10000
set_option maxHeartbeats 4000000
set_option linter.unusedSimpArgs false
set_option linter.unusedVariables false

theorem tired_serv {s : Stn} {h : Hnd} {l : List Spn} (hW : 1 ≤ s.window ∧ s.window ≤ 100) (hlog : logdB h.log = true) (hn : newOk l) : tiredP s h l ↔ ¬ servP s h l := by
  unfold logdB at hlog
  rw [Bool.and_eq_true] at hlog
  have hmem := logB_mem hlog.1
  have hdl := logB_disj hlog.1
  have hcount : ∀ t, (wc (fun u => srv h.log u || srv l u) t s.window.toNat : Int) = comL (t, t + s.window - 1) h.log + comL (t, t + s.window - 1) l := fun t => by
    rw [wc_or _ _ (fun u h1 h2 => ?_), Int.natCast_add, wc_srv hdl, wc_srv hn.1, show (s.window.toNat : Int) = s.window by omega]
    obtain ⟨x, hx, hxu⟩ := srv_mem.1 h1
    obtain ⟨y, hy, hyu⟩ := srv_mem.1 h2
    have := hmem x hx
    have := hn.2 y hy
    rw [inS_iff] at hxu hyu
    omega
  constructor
  · rintro ⟨x, hx, t, ⟨h1, h2⟩, h3⟩ hs
    rw [hcount] at h3
    have := hs x hx t h1 h2
    omega
  · intro hs
    refine Classical.byContradiction fun hc => hs fun x hx t h1 h2 => ?_
    refine Classical.byContradiction fun hlt => hc ⟨x, hx, t, ⟨h1, h2⟩, ?_⟩
    rw [hcount]
    omega

def pl3_6 : Plan := (ones [0, 2, 1, 3, 4, 5, 6, 7, 8, 9, 10, 11, 12, 13, 14, 15, 16, 17, 18] .fin)
def pl3 : List (Nat × Plan) := [(6, pl3_6)]
theorem pl3_lk : (lkO 6 pl3 = some pl3_6) := rfl
theorem crewsSpare_fn (w : World) (v : Value) (s : Stn) (hs : StOk w v s) (k t : Int) : SX.Fn Try.prog 3 [v, I k, I t] w (fun _ => False) fun r N => r = .bool true := by
  have hs0 := hs
  obtain ⟨hv, ps, rfl, hps, hsl, hlg⟩ := hs
  obtain ⟨a, n, c, rfl⟩ := hsl.shape
  refine walk [] pl3 (det0_ok _ _) Try.func3 rfl Try.ntmps3 res3 (by kernel_rfl) no_facts ?_
  simp (config := { maxSteps := 4000000 }) only [↓sx0, ↓sx1, ↓sx2, ↓sx3, ↓sx4, ↓sx5, ↓sx6, sx0, sx1, sx2, sx3, sx4, sx5, sx6, tf3, ev3_hold, sxo, sxc, sxp, sxq, sxr, sxs, sxl, sxm, Int.reduceBEq, Int.reduceBNe, Int.reduceLT, Int.reduceLE, Int.reduceEq, Int.reduceGT, Int.reduceGE, Int.reduceToNat, ↓reduceIte, List.reduceReplicate, Nat.reduceAdd, Nat.reduceSub, Nat.reduceMul, Nat.reduceLT, Nat.reduceLeDiff, Nat.reduceBEq, Nat.reduceEqDiff, det0]
  refine CallOb.pureH (fun w' hp' => big_fn w' _ s (hs0.hp hp')) ?_
  rintro r N rfl
  cases hB : bigB s with
  | true =>
    refine ⟨?_⟩
    simp (config := { maxSteps := 4000000 }) only [↓sx0, ↓sx1, ↓sx2, ↓sx3, ↓sx4, ↓sx5, ↓sx6, sx0, sx1, sx2, sx3, sx4, sx5, sx6, tf3, ev3_hold, sxo, sxc, sxp, sxq, sxr, sxs, sxl, sxm, Int.reduceBEq, Int.reduceBNe, Int.reduceLT, Int.reduceLE, Int.reduceEq, Int.reduceGT, Int.reduceGE, Int.reduceToNat, ↓reduceIte, List.reduceReplicate, Nat.reduceAdd, Nat.reduceSub, Nat.reduceMul, Nat.reduceLT, Nat.reduceLeDiff, Nat.reduceBEq, Nat.reduceEqDiff, det0]
    refine CallOb.pureH (fun w' hp' => works_fn w') ?_
    rintro r N2 rfl
    refine ⟨?_⟩
    simp (config := { maxSteps := 4000000 }) only [↓sx0, ↓sx1, ↓sx2, ↓sx3, ↓sx4, ↓sx5, ↓sx6, sx0, sx1, sx2, sx3, sx4, sx5, sx6, tf3, ev3_hold, sxo, sxc, sxp, sxq, sxr, sxs, sxl, sxm, Int.reduceBEq, Int.reduceBNe, Int.reduceLT, Int.reduceLE, Int.reduceEq, Int.reduceGT, Int.reduceGE, Int.reduceToNat, ↓reduceIte, List.reduceReplicate, Nat.reduceAdd, Nat.reduceSub, Nat.reduceMul, Nat.reduceLT, Nat.reduceLeDiff, Nat.reduceBEq, Nat.reduceEqDiff]
  | false =>
  have hsm := (bigB_false hB).1
  refine ⟨?_⟩
  simp (config := { maxSteps := 4000000 }) only [↓sx0, ↓sx1, ↓sx2, ↓sx3, ↓sx4, ↓sx5, ↓sx6, sx0, sx1, sx2, sx3, sx4, sx5, sx6, tf3, ev3_hold, sxo, sxc, sxp, sxq, sxr, sxs, sxl, sxm, Int.reduceBEq, Int.reduceBNe, Int.reduceLT, Int.reduceLE, Int.reduceEq, Int.reduceGT, Int.reduceGE, Int.reduceToNat, ↓reduceIte, List.reduceReplicate, Nat.reduceAdd, Nat.reduceSub, Nat.reduceMul, Nat.reduceLT, Nat.reduceLeDiff, Nat.reduceBEq, Nat.reduceEqDiff, det0]
  refine CallOb.pureH (fun w' hp' => copy_fn w' _ s (hs0.hp hp') hsm) ?_
  rintro r N2 hcp
  have hcp0 := hcp
  obtain ⟨ao, co, ps', rfl, _⟩ := hcp
  refine ⟨?_⟩
  simp (config := { maxSteps := 4000000 }) only [↓sx0, ↓sx1, ↓sx2, ↓sx3, ↓sx4, ↓sx5, ↓sx6, sx0, sx1, sx2, sx3, sx4, sx5, sx6, tf3, ev3_hold, sxo, sxc, sxp, sxq, sxr, sxs, sxl, sxm, Int.reduceBEq, Int.reduceBNe, Int.reduceLT, Int.reduceLE, Int.reduceEq, Int.reduceGT, Int.reduceGE, Int.reduceToNat, ↓reduceIte, List.reduceReplicate, Nat.reduceAdd, Nat.reduceSub, Nat.reduceMul, Nat.reduceLT, Nat.reduceLeDiff, Nat.reduceBEq, Nat.reduceEqDiff, det0]
  refine CallOb.pureH (fun w' hp' => spare_fn w' _ s (hcp0.ok (by simp +contextual) hp') hsm k t) ?_
  rintro r N3 rfl
  refine ⟨?_⟩
  simp (config := { maxSteps := 4000000 }) only [↓sx0, ↓sx1, ↓sx2, ↓sx3, ↓sx4, ↓sx5, ↓sx6, sx0, sx1, sx2, sx3, sx4, sx5, sx6, tf3, ev3_hold, sxo, sxc, sxp, sxq, sxr, sxs, sxl, sxm, Int.reduceBEq, Int.reduceBNe, Int.reduceLT, Int.reduceLE, Int.reduceEq, Int.reduceGT, Int.reduceGE, Int.reduceToNat, ↓reduceIte, List.reduceReplicate, Nat.reduceAdd, Nat.reduceSub, Nat.reduceMul, Nat.reduceLT, Nat.reduceLeDiff, Nat.reduceBEq, Nat.reduceEqDiff, det0]
  refine CallOb.pureH (fun w' hp' => rspare_fn w' _ s (hs0.hp hp') hsm k t) ?_
  rintro r N4 rfl
  obtain ⟨sv, hsv⟩ : ∃ sv, spareV s k t = sv := ⟨_, rfl⟩
  obtain ⟨se, hse⟩ : ∃ se, spareE s k t = se := ⟨_, rfl⟩
  rw [hsv, hse]
  refine ⟨?_⟩
  simp (config := { maxSteps := 4000000 }) only [↓sx0, ↓sx1, ↓sx2, ↓sx3, ↓sx4, ↓sx5, ↓sx6, sx0, sx1, sx2, sx3, sx4, sx5, sx6, tf3, ev3_hold, sxo, sxc, sxp, sxq, sxr, sxs, sxl, sxm, Int.reduceBEq, Int.reduceBNe, Int.reduceLT, Int.reduceLE, Int.reduceEq, Int.reduceGT, Int.reduceGE, Int.reduceToNat, ↓reduceIte, List.reduceReplicate, Nat.reduceAdd, Nat.reduceSub, Nat.reduceMul, Nat.reduceLT, Nat.reduceLeDiff, Nat.reduceBEq, Nat.reduceEqDiff, det0, pl3_lk, pl3_6]
  refine CallOb.pureH (fun w' hp' => check_fn w' _ s (hcp0.ok (by simp +contextual) hp') hsm) ?_
  rintro r N5 rfl
  refine ⟨?_⟩
  refine CallOb.pureH (fun w' hp' => rcheck_fn w' _ s (hs0.hp hp') hsm) ?_
  rintro r N6 rfl
  refine ⟨?_⟩
  simp (config := { maxSteps := 4000000 }) only [↓sx0, ↓sx1, ↓sx2, ↓sx3, ↓sx4, ↓sx5, ↓sx6, sx0, sx1, sx2, sx3, sx4, sx5, sx6, tf3, ev3_hold, sxo, sxc, sxp, sxq, sxr, sxs, sxl, sxm, Int.reduceBEq, Int.reduceBNe, Int.reduceLT, Int.reduceLE, Int.reduceEq, Int.reduceGT, Int.reduceGE, Int.reduceToNat, ↓reduceIte, List.reduceReplicate, Nat.reduceAdd, Nat.reduceSub, Nat.reduceMul, Nat.reduceLT, Nat.reduceLeDiff, Nat.reduceBEq, Nat.reduceEqDiff, det0, pl3_lk, pl3_6]
  refine CallOb.pureH (fun w' hp' => works_fn w') ?_
  rintro r N7 rfl
  refine ⟨?_⟩
  simp (config := { maxSteps := 4000000 }) only [↓sx0, ↓sx1, ↓sx2, ↓sx3, ↓sx4, ↓sx5, ↓sx6, sx0, sx1, sx2, sx3, sx4, sx5, sx6, tf3, ev3_hold, sxo, sxc, sxp, sxq, sxr, sxs, sxl, sxm, Int.reduceBEq, Int.reduceBNe, Int.reduceLT, Int.reduceLE, Int.reduceEq, Int.reduceGT, Int.reduceGE, Int.reduceToNat, ↓reduceIte, List.reduceReplicate, Nat.reduceAdd, Nat.reduceSub, Nat.reduceMul, Nat.reduceLT, Nat.reduceLeDiff, Nat.reduceBEq, Nat.reduceEqDiff, pl3_lk, pl3_6]

open Classical in
theorem crewsRested_fn (w : World) (v : Value) (s : Stn) (hs : StOk w v s) (k t : Int) : SX.Fn Try.prog 4 [v, I k, I t] w (fun _ => False) fun r N => r = .bool true := by
  have hs0 := hs
  obtain ⟨hv, ps, rfl, hps, hsl, hlg⟩ := hs
  obtain ⟨a, n, c, rfl⟩ := hsl.shape
  have hn := hsl.le hdc_len (by omega)
  have hlen : s.hands.length = ps.length := by rw [← hps, List.length_map]
  subst hn
  have dn : (∀ xs, detB 16 xs = none) ∧ (∀ xs, detB 17 xs = none) ∧ (∀ xs, detB 22 xs = none) ∧ (∀ xs, detB 19 xs = none) ∧ (∀ xs, detB 24 xs = none) := ⟨fun _ => rfl, fun _ => rfl, fun _ => rfl, fun _ => rfl, fun _ => rfl⟩
  refine walk [] [] (detB_ok _ _) Try.func4 rfl Try.ntmps4 res4 (by kernel_rfl) no_facts ?_
  simp (config := { maxSteps := 4000000 }) only [↓sx0, ↓sx1, ↓sx2, ↓sx3, ↓sx4, ↓sx5, ↓sx6, sx0, sx1, sx2, sx3, sx4, sx5, sx6, tf4, ev3_hold, sxo, sxc, sxp, sxq, sxr, sxs, sxl, sxm, Int.reduceBEq, Int.reduceBNe, Int.reduceLT, Int.reduceLE, Int.reduceEq, Int.reduceGT, Int.reduceGE, Int.reduceToNat, ↓reduceIte, List.reduceReplicate, Nat.reduceAdd, Nat.reduceSub, Nat.reduceMul, Nat.reduceLT, Nat.reduceLeDiff, Nat.reduceBEq, Nat.reduceEqDiff, dn]
  refine CallOb.pureH (fun w' hp' => big_fn w' _ s (hs0.hp hp')) ?_
  rintro r N rfl
  cases hB : bigB s with
  | true =>
    refine ⟨?_⟩
    simp (config := { maxSteps := 4000000 }) only [↓sx0, ↓sx1, ↓sx2, ↓sx3, ↓sx4, ↓sx5, ↓sx6, sx0, sx1, sx2, sx3, sx4, sx5, sx6, tf4, ev3_hold, sxo, sxc, sxp, sxq, sxr, sxs, sxl, sxm, Int.reduceBEq, Int.reduceBNe, Int.reduceLT, Int.reduceLE, Int.reduceEq, Int.reduceGT, Int.reduceGE, Int.reduceToNat, ↓reduceIte, List.reduceReplicate, Nat.reduceAdd, Nat.reduceSub, Nat.reduceMul, Nat.reduceLT, Nat.reduceLeDiff, Nat.reduceBEq, Nat.reduceEqDiff, dn]
    refine CallOb.pureH (fun w' hp' => works_fn w') ?_
    rintro r N2 rfl
    refine ⟨?_⟩
    simp (config := { maxSteps := 4000000 }) only [↓sx0, ↓sx1, ↓sx2, ↓sx3, ↓sx4, ↓sx5, ↓sx6, sx0, sx1, sx2, sx3, sx4, sx5, sx6, tf4, ev3_hold, sxo, sxc, sxp, sxq, sxr, sxs, sxl, sxm, Int.reduceBEq, Int.reduceBNe, Int.reduceLT, Int.reduceLE, Int.reduceEq, Int.reduceGT, Int.reduceGE, Int.reduceToNat, ↓reduceIte, List.reduceReplicate, Nat.reduceAdd, Nat.reduceSub, Nat.reduceMul, Nat.reduceLT, Nat.reduceLeDiff, Nat.reduceBEq, Nat.reduceEqDiff]
  | false =>
  have hsm := (bigB_false hB).1
  have hsm1 := hsm.1
  have e1 : wr ((ps.length : Int) - 1) = (s.hands.length : Int) - 1 := (wrap_id (by omega)).trans (by omega)
  refine ⟨?_⟩
  simp (config := { maxSteps := 4000000 }) only [↓sx0, ↓sx1, ↓sx2, ↓sx3, ↓sx4, ↓sx5, ↓sx6, sx0, sx1, sx2, sx3, sx4, sx5, sx6, tf4, ev3_hold, sxo, sxc, sxp, sxq, sxr, sxs, sxl, sxm, Int.reduceBEq, Int.reduceBNe, Int.reduceLT, Int.reduceLE, Int.reduceEq, Int.reduceGT, Int.reduceGE, Int.reduceToNat, ↓reduceIte, List.reduceReplicate, Nat.reduceAdd, Nat.reduceSub, Nat.reduceMul, Nat.reduceLT, Nat.reduceLeDiff, Nat.reduceBEq, Nat.reduceEqDiff, dn]
  refine CallOb.pureH (fun w' hp' => rcheck_fn w' _ s (hs0.hp hp') hsm) ?_
  rintro r N2 rfl
  cases hok : s.okB with
  | false =>
    refine ⟨?_⟩
    simp (config := { maxSteps := 4000000 }) only [↓sx0, ↓sx1, ↓sx2, ↓sx3, ↓sx4, ↓sx5, ↓sx6, sx0, sx1, sx2, sx3, sx4, sx5, sx6, tf4, ev3_hold, sxo, sxc, sxp, sxq, sxr, sxs, sxl, sxm, Int.reduceBEq, Int.reduceBNe, Int.reduceLT, Int.reduceLE, Int.reduceEq, Int.reduceGT, Int.reduceGE, Int.reduceToNat, ↓reduceIte, List.reduceReplicate, Nat.reduceAdd, Nat.reduceSub, Nat.reduceMul, Nat.reduceLT, Nat.reduceLeDiff, Nat.reduceBEq, Nat.reduceEqDiff, dn]
    refine CallOb.pureH (fun w' hp' => works_fn w') ?_
    rintro r N3 rfl
    refine ⟨?_⟩
    simp (config := { maxSteps := 4000000 }) only [↓sx0, ↓sx1, ↓sx2, ↓sx3, ↓sx4, ↓sx5, ↓sx6, sx0, sx1, sx2, sx3, sx4, sx5, sx6, tf4, ev3_hold, sxo, sxc, sxp, sxq, sxr, sxs, sxl, sxm, Int.reduceBEq, Int.reduceBNe, Int.reduceLT, Int.reduceLE, Int.reduceEq, Int.reduceGT, Int.reduceGE, Int.reduceToNat, ↓reduceIte, List.reduceReplicate, Nat.reduceAdd, Nat.reduceSub, Nat.reduceMul, Nat.reduceLT, Nat.reduceLeDiff, Nat.reduceBEq, Nat.reduceEqDiff]
  | true =>
  cases h1 : inB k 0 ((s.hands.length : Int) - 1) with
  | false =>
    refine ⟨?_⟩
    simp (config := { maxSteps := 4000000 }) only [↓sx0, ↓sx1, ↓sx2, ↓sx3, ↓sx4, ↓sx5, ↓sx6, sx0, sx1, sx2, sx3, sx4, sx5, sx6, tf4, ev3_hold, sxo, sxc, sxp, sxq, sxr, sxs, sxl, sxm, Int.reduceBEq, Int.reduceBNe, Int.reduceLT, Int.reduceLE, Int.reduceEq, Int.reduceGT, Int.reduceGE, Int.reduceToNat, ↓reduceIte, List.reduceReplicate, Nat.reduceAdd, Nat.reduceSub, Nat.reduceMul, Nat.reduceLT, Nat.reduceLeDiff, Nat.reduceBEq, Nat.reduceEqDiff, dn, detB_eq, e1, h1]
    refine CallOb.pureH (fun w' hp' => works_fn w') ?_
    rintro r N3 rfl
    refine ⟨?_⟩
    simp (config := { maxSteps := 4000000 }) only [↓sx0, ↓sx1, ↓sx2, ↓sx3, ↓sx4, ↓sx5, ↓sx6, sx0, sx1, sx2, sx3, sx4, sx5, sx6, tf4, ev3_hold, sxo, sxc, sxp, sxq, sxr, sxs, sxl, sxm, Int.reduceBEq, Int.reduceBNe, Int.reduceLT, Int.reduceLE, Int.reduceEq, Int.reduceGT, Int.reduceGE, Int.reduceToNat, ↓reduceIte, List.reduceReplicate, Nat.reduceAdd, Nat.reduceSub, Nat.reduceMul, Nat.reduceLT, Nat.reduceLeDiff, Nat.reduceBEq, Nat.reduceEqDiff]
  | true =>
  by_cases c1 : t < 0
  · have p1 : (t < 0) = True := eq_true c1
    refine ⟨?_⟩
    simp (config := { maxSteps := 4000000 }) only [↓sx0, ↓sx1, ↓sx2, ↓sx3, ↓sx4, ↓sx5, ↓sx6, sx0, sx1, sx2, sx3, sx4, sx5, sx6, tf4, ev3_hold, sxo, sxc, sxp, sxq, sxr, sxs, sxl, sxm, Int.reduceBEq, Int.reduceBNe, Int.reduceLT, Int.reduceLE, Int.reduceEq, Int.reduceGT, Int.reduceGE, Int.reduceToNat, ↓reduceIte, List.reduceReplicate, Nat.reduceAdd, Nat.reduceSub, Nat.reduceMul, Nat.reduceLT, Nat.reduceLeDiff, Nat.reduceBEq, Nat.reduceEqDiff, dn, detB_eq, e1, h1, p1]
    refine CallOb.pureH (fun w' hp' => works_fn w') ?_
    rintro r N3 rfl
    refine ⟨?_⟩
    simp (config := { maxSteps := 4000000 }) only [↓sx0, ↓sx1, ↓sx2, ↓sx3, ↓sx4, ↓sx5, ↓sx6, sx0, sx1, sx2, sx3, sx4, sx5, sx6, tf4, ev3_hold, sxo, sxc, sxp, sxq, sxr, sxs, sxl, sxm, Int.reduceBEq, Int.reduceBNe, Int.reduceLT, Int.reduceLE, Int.reduceEq, Int.reduceGT, Int.reduceGE, Int.reduceToNat, ↓reduceIte, List.reduceReplicate, Nat.reduceAdd, Nat.reduceSub, Nat.reduceMul, Nat.reduceLT, Nat.reduceLeDiff, Nat.reduceBEq, Nat.reduceEqDiff]
  have p1 : (t < 0) = False := eq_false c1
  by_cases c2 : t > 360
  · have p2 : (t > 360) = True := eq_true c2
    refine ⟨?_⟩
    simp (config := { maxSteps := 4000000 }) only [↓sx0, ↓sx1, ↓sx2, ↓sx3, ↓sx4, ↓sx5, ↓sx6, sx0, sx1, sx2, sx3, sx4, sx5, sx6, tf4, ev3_hold, sxo, sxc, sxp, sxq, sxr, sxs, sxl, sxm, Int.reduceBEq, Int.reduceBNe, Int.reduceLT, Int.reduceLE, Int.reduceEq, Int.reduceGT, Int.reduceGE, Int.reduceToNat, ↓reduceIte, List.reduceReplicate, Nat.reduceAdd, Nat.reduceSub, Nat.reduceMul, Nat.reduceLT, Nat.reduceLeDiff, Nat.reduceBEq, Nat.reduceEqDiff, dn, detB_eq, e1, h1, p1, p2]
    refine CallOb.pureH (fun w' hp' => works_fn w') ?_
    rintro r N3 rfl
    refine ⟨?_⟩
    simp (config := { maxSteps := 4000000 }) only [↓sx0, ↓sx1, ↓sx2, ↓sx3, ↓sx4, ↓sx5, ↓sx6, sx0, sx1, sx2, sx3, sx4, sx5, sx6, tf4, ev3_hold, sxo, sxc, sxp, sxq, sxr, sxs, sxl, sxm, Int.reduceBEq, Int.reduceBNe, Int.reduceLT, Int.reduceLE, Int.reduceEq, Int.reduceGT, Int.reduceGE, Int.reduceToNat, ↓reduceIte, List.reduceReplicate, Nat.reduceAdd, Nat.reduceSub, Nat.reduceMul, Nat.reduceLT, Nat.reduceLeDiff, Nat.reduceBEq, Nat.reduceEqDiff]
  have p2 : (t > 360) = False := eq_false c2
  have hk := (inB_iff _ _ _).1 h1
  obtain ⟨K, rfl⟩ : ∃ K : Nat, k = K := ⟨k.toNat, by omega⟩
  have hKl : K < s.hands.length := by omega
  have hhK := List.getElem?_eq_getElem hKl
  generalize s.hands[K] = h at hhK
  have hob := okB_of hok
  have hlog := (handB_of (hob.2.2.2 h (List.mem_of_getElem? hhK))).2.2.2.2.1
  have hlb := logB_span hlog
  have he : spareE s K t = 0 := by
    unfold spareE
    rw [hok, if_pos rfl, h1, (inB_iff t 0 360).2 (by omega)]
    rfl
  have hsv : spareV s K t = (spareN s K t : Nat) := by
    unfold spareV
    rw [if_pos he, Int.toNat_natCast]
  have hspec := runP_spec (P := fun n : Nat => mayP s h t ((n : Int) + 1)) 40 0
  have hsp : spareN s K t = runP (fun n => mayP s h t ((n : Int) + 1)) 0 40 := by
    unfold spareN
    rw [hhK]
  rw [← hsp] at hspec
  obtain ⟨m, hm⟩ : ∃ m, spareN s K t = m := ⟨_, rfl⟩
  rw [hm] at hspec hsv
  obtain ⟨_, hm40, hyes, hno⟩ := hspec
  have hno' : m = 40 ∨ m ≠ 40 ∧ decide (tiredP s h [(t, t + (m : Int))]) = true := by
    by_cases c : m = 40
    · exact .inl c
    · refine .inr ⟨c, decide_eq_true ((tired_serv hob.2.1 hlog (newOk_one ⟨by omega, by omega, by omega⟩)).2 fun hsv => hno (by omega) ?_)⟩
      rw [may_serv hob.2.1 hlog (by omega) (by omega) (by omega), show t + ((m : Int) + 1) - 1 = t + m by omega]
      exact hsv
  have hyes' : m = 0 ∨ 0 < m ∧ decide (tiredP s h [(t, t + (m : Int) - 1)]) = false := by
    by_cases c : m = 0
    · exact .inl c
    · refine .inr ⟨by omega, decide_eq_false fun ht => (tired_serv hob.2.1 hlog (newOk_one ⟨by omega, by omega, by omega⟩)).1 ht ?_⟩
      have := hyes (m - 1) (by omega) (by omega)
      rw [may_serv hob.2.1 hlog (by omega) (by omega) (by omega), show t + (((m - 1 : Nat) : Int) + 1) - 1 = t + m - 1 by omega] at this
      exact this
  have f1 : wr (t + (m : Int)) = t + m := wrap_id (by omega)
  have f2 : wr (t + (m : Int) - 1) = t + m - 1 := wrap_id (by omega)
  have q1 : ((m : Int) < 0) = False := eq_false (by omega)
  have q2 : ((m : Int) > 40) = False := eq_false (by omega)
  have htd := fun (H : List HO) w' (hp : Hp ⟨w, fun _ => False⟩ H w') (vl : Value) (b : Int) (hb : t - 1 ≤ b ∧ b ≤ t + 40) (hl : Sl w' vl 2 (cat spc [(t, b)])) => tired_fn w' _ s (hs0.hp hp) hsm1 hob.2.1 K h hhK (by omega) vl _ hl ⟨fun x hx => (by rw [List.mem_singleton] at hx; subst hx; simp only; omega), by simp⟩
  refine ⟨?_⟩
  simp (config := { maxSteps := 4000000 }) only [↓sx0, ↓sx1, ↓sx2, ↓sx3, ↓sx4, ↓sx5, ↓sx6, sx0, sx1, sx2, sx3, sx4, sx5, sx6, tf4, ev3_hold, sxo, sxc, sxp, sxq, sxr, sxs, sxl, sxm, Int.reduceBEq, Int.reduceBNe, Int.reduceLT, Int.reduceLE, Int.reduceEq, Int.reduceGT, Int.reduceGE, Int.reduceToNat, ↓reduceIte, List.reduceReplicate, Nat.reduceAdd, Nat.reduceSub, Nat.reduceMul, Nat.reduceLT, Nat.reduceLeDiff, Nat.reduceBEq, Nat.reduceEqDiff, dn, detB_eq, e1, h1, p1, p2]
  refine CallOb.pureH (fun w' hp' => spare_fn w' _ s (hs0.hp hp') hsm K t) ?_
  rw [he, hsv]
  rintro r N3 rfl
  by_cases c0 : m = 0
  · subst c0
    obtain ⟨_, ht2⟩ := hno'.resolve_left (by omega)
    have q3 : (((0 : Nat) : Int) > 0) = False := eq_false (by omega)
    have q4 : (((0 : Nat) : Int) = 40) = False := eq_false (by omega)
    have htd' := fun (H : List HO) w' hp vl => htd H w' hp vl (t + ((0 : Nat) : Int)) (by omega)
    rw [ht2] at htd'
    refine ⟨?_⟩
    simp (config := { maxSteps := 4000000 }) only [↓sx0, ↓sx1, ↓sx2, ↓sx3, ↓sx4, ↓sx5, ↓sx6, sx0, sx1, sx2, sx3, sx4, sx5, sx6, tf4, ev3_hold, sxo, sxc, sxp, sxq, sxr, sxs, sxl, sxm, Int.reduceBEq, Int.reduceBNe, Int.reduceLT, Int.reduceLE, Int.reduceEq, Int.reduceGT, Int.reduceGE, Int.reduceToNat, ↓reduceIte, List.reduceReplicate, Nat.reduceAdd, Nat.reduceSub, Nat.reduceMul, Nat.reduceLT, Nat.reduceLeDiff, Nat.reduceBEq, Nat.reduceEqDiff, dn, q1, q2, q3, q4, f1]
    intro b
    refine CallOb.pureH (fun w' hp' => htd' _ w' hp' _ (row_hp (E := 36) (xs := cat spc [(t, t + ((0 : Nat) : Int))]) (by simp [cat, spc]) hp')) ?_
    rintro r N4 rfl
    refine ⟨?_⟩
    simp (config := { maxSteps := 4000000 }) only [↓sx0, ↓sx1, ↓sx2, ↓sx3, ↓sx4, ↓sx5, ↓sx6, sx0, sx1, sx2, sx3, sx4, sx5, sx6, tf4, ev3_hold, sxo, sxc, sxp, sxq, sxr, sxs, sxl, sxm, Int.reduceBEq, Int.reduceBNe, Int.reduceLT, Int.reduceLE, Int.reduceEq, Int.reduceGT, Int.reduceGE, Int.reduceToNat, ↓reduceIte, List.reduceReplicate, Nat.reduceAdd, Nat.reduceSub, Nat.reduceMul, Nat.reduceLT, Nat.reduceLeDiff, Nat.reduceBEq, Nat.reduceEqDiff, dn]
    refine CallOb.pureH (fun w' hp' => works_fn w') ?_
    rintro r N5 rfl
    refine ⟨?_⟩
    simp (config := { maxSteps := 4000000 }) only [↓sx0, ↓sx1, ↓sx2, ↓sx3, ↓sx4, ↓sx5, ↓sx6, sx0, sx1, sx2, sx3, sx4, sx5, sx6, tf4, ev3_hold, sxo, sxc, sxp, sxq, sxr, sxs, sxl, sxm, Int.reduceBEq, Int.reduceBNe, Int.reduceLT, Int.reduceLE, Int.reduceEq, Int.reduceGT, Int.reduceGE, Int.reduceToNat, ↓reduceIte, List.reduceReplicate, Nat.reduceAdd, Nat.reduceSub, Nat.reduceMul, Nat.reduceLT, Nat.reduceLeDiff, Nat.reduceBEq, Nat.reduceEqDiff]
  have ht1 := (hyes'.resolve_left c0).2
  have q3 : ((m : Int) > 0) = True := eq_true (by omega)
  have htd1 := fun (H : List HO) w' hp vl => htd H w' hp vl (t + (m : Int) - 1) (by omega)
  rw [ht1] at htd1
  refine ⟨?_⟩
  simp (config := { maxSteps := 4000000 }) only [↓sx0, ↓sx1, ↓sx2, ↓sx3, ↓sx4, ↓sx5, ↓sx6, sx0, sx1, sx2, sx3, sx4, sx5, sx6, tf4, ev3_hold, sxo, sxc, sxp, sxq, sxr, sxs, sxl, sxm, Int.reduceBEq, Int.reduceBNe, Int.reduceLT, Int.reduceLE, Int.reduceEq, Int.reduceGT, Int.reduceGE, Int.reduceToNat, ↓reduceIte, List.reduceReplicate, Nat.reduceAdd, Nat.reduceSub, Nat.reduceMul, Nat.reduceLT, Nat.reduceLeDiff, Nat.reduceBEq, Nat.reduceEqDiff, dn, q1, q2, q3, f1, f2]
  intro b
  refine CallOb.pureH (fun w' hp' => htd1 _ w' hp' _ (row_hp (E := 36) (xs := cat spc [(t, t + (m : Int) - 1)]) (by simp [cat, spc]) hp')) ?_
  rintro r N4 rfl
  by_cases c40 : m = 40
  · have q4 : ((m : Int) = 40) = True := eq_true (by omega)
    refine ⟨?_⟩
    simp (config := { maxSteps := 4000000 }) only [↓sx0, ↓sx1, ↓sx2, ↓sx3, ↓sx4, ↓sx5, ↓sx6, sx0, sx1, sx2, sx3, sx4, sx5, sx6, tf4, ev3_hold, sxo, sxc, sxp, sxq, sxr, sxs, sxl, sxm, Int.reduceBEq, Int.reduceBNe, Int.reduceLT, Int.reduceLE, Int.reduceEq, Int.reduceGT, Int.reduceGE, Int.reduceToNat, ↓reduceIte, List.reduceReplicate, Nat.reduceAdd, Nat.reduceSub, Nat.reduceMul, Nat.reduceLT, Nat.reduceLeDiff, Nat.reduceBEq, Nat.reduceEqDiff, dn, q4]
    refine CallOb.pureH (fun w' hp' => works_fn w') ?_
    rintro r N5 rfl
    refine ⟨?_⟩
    simp (config := { maxSteps := 4000000 }) only [↓sx0, ↓sx1, ↓sx2, ↓sx3, ↓sx4, ↓sx5, ↓sx6, sx0, sx1, sx2, sx3, sx4, sx5, sx6, tf4, ev3_hold, sxo, sxc, sxp, sxq, sxr, sxs, sxl, sxm, Int.reduceBEq, Int.reduceBNe, Int.reduceLT, Int.reduceLE, Int.reduceEq, Int.reduceGT, Int.reduceGE, Int.reduceToNat, ↓reduceIte, List.reduceReplicate, Nat.reduceAdd, Nat.reduceSub, Nat.reduceMul, Nat.reduceLT, Nat.reduceLeDiff, Nat.reduceBEq, Nat.reduceEqDiff]
  have q4 : ((m : Int) = 40) = False := eq_false (by omega)
  have ht2 := (hno'.resolve_left c40).2
  have htd2 := fun (H : List HO) w' hp vl => htd H w' hp vl (t + (m : Int)) (by omega)
  rw [ht2] at htd2
  refine ⟨?_⟩
  simp (config := { maxSteps := 4000000 }) only [↓sx0, ↓sx1, ↓sx2, ↓sx3, ↓sx4, ↓sx5, ↓sx6, sx0, sx1, sx2, sx3, sx4, sx5, sx6, tf4, ev3_hold, sxo, sxc, sxp, sxq, sxr, sxs, sxl, sxm, Int.reduceBEq, Int.reduceBNe, Int.reduceLT, Int.reduceLE, Int.reduceEq, Int.reduceGT, Int.reduceGE, Int.reduceToNat, ↓reduceIte, List.reduceReplicate, Nat.reduceAdd, Nat.reduceSub, Nat.reduceMul, Nat.reduceLT, Nat.reduceLeDiff, Nat.reduceBEq, Nat.reduceEqDiff, dn, q4, f1]
  intro b2
  refine CallOb.pureH (fun w' hp' => htd2 _ w' hp' _ (row_hp (E := 36) (xs := cat spc [(t, t + (m : Int))]) (by simp [cat, spc]) hp')) ?_
  rintro r N5 rfl
  refine ⟨?_⟩
  simp (config := { maxSteps := 4000000 }) only [↓sx0, ↓sx1, ↓sx2, ↓sx3, ↓sx4, ↓sx5, ↓sx6, sx0, sx1, sx2, sx3, sx4, sx5, sx6, tf4, ev3_hold, sxo, sxc, sxp, sxq, sxr, sxs, sxl, sxm, Int.reduceBEq, Int.reduceBNe, Int.reduceLT, Int.reduceLE, Int.reduceEq, Int.reduceGT, Int.reduceGE, Int.reduceToNat, ↓reduceIte, List.reduceReplicate, Nat.reduceAdd, Nat.reduceSub, Nat.reduceMul, Nat.reduceLT, Nat.reduceLeDiff, Nat.reduceBEq, Nat.reduceEqDiff, dn]
  refine CallOb.pureH (fun w' hp' => works_fn w') ?_
  rintro r N6 rfl
  refine ⟨?_⟩
  simp (config := { maxSteps := 4000000 }) only [↓sx0, ↓sx1, ↓sx2, ↓sx3, ↓sx4, ↓sx5, ↓sx6, sx0, sx1, sx2, sx3, sx4, sx5, sx6, tf4, ev3_hold, sxo, sxc, sxp, sxq, sxr, sxs, sxl, sxm, Int.reduceBEq, Int.reduceBNe, Int.reduceLT, Int.reduceLE, Int.reduceEq, Int.reduceGT, Int.reduceGE, Int.reduceToNat, ↓reduceIte, List.reduceReplicate, Nat.reduceAdd, Nat.reduceSub, Nat.reduceMul, Nat.reduceLT, Nat.reduceLeDiff, Nat.reduceBEq, Nat.reduceEqDiff]

end Go.Proofs.Ytlbcgkoncnablaa

namespace Go.Proofs.Ytlbcgkoncnablaa
open Go.RowKit Go.SX
set_option maxRecDepth 10000
set_option maxHeartbeats 4000000
set_option linter.unusedSimpArgs false
set_option linter.unusedVariables false

/-! ### The first crew, plain -/

def lexL (l l' : List Int) : Prop := l = l' ∨ ∃ (p : Nat) (a b : Int), l.take p = l'.take p ∧ l[p]? = some a ∧ l'[p]? = some b ∧ a < b

def extP (ok : Nat → Nat → Bool) (n : Nat) (l : List Int) (q : Nat) : Prop := ∀ p, q ≤ p → p < l.length → ∃ i : Nat, l[p]? = some (i : Int) ∧ i < n ∧ ok p i = true ∧ (i : Int) ∉ l.take p

theorem take_next {l : List Int} {k : Nat} {x : Int} (h : l[k]? = some x) : l.take (k + 1) = l.take k ++ [x] := by
  rw [List.take_add_one, h]
  rfl

theorem fillG_some {ok : Nat → Nat → Bool} {n : Nat} : ∀ {r : Nat} {who l : List Int}, fillG ok n r who = some l → l.length = who.length + r ∧ l.take who.length = who ∧ extP ok n l who.length
  | 0, who, l, h => by
    rw [fillG] at h
    cases h
    exact ⟨rfl, List.take_of_length_le (Nat.le_refl _), fun p h1 h2 => by omega⟩
  | r + 1, who, l, h => by
    rw [fillG] at h
    obtain ⟨i, hi, hg⟩ := List.exists_of_findSome?_eq_some h
    split at hg
    · rename_i hc
      rw [Bool.and_eq_true, Bool.not_eq_true', decide_eq_false_iff_not] at hc
      obtain ⟨h1, h2, h3⟩ := fillG_some hg
      rw [List.length_append, List.length_singleton] at h1 h2 h3
      have hu : l[who.length]? = some (i : Int) := by
        have : (l.take (who.length + 1))[who.length]? = some (i : Int) := by rw [h2, List.getElem?_append_right (Nat.le_refl _), Nat.sub_self]; rfl
        rwa [List.getElem?_take, if_pos (by omega)] at this
      have ht : l.take who.length = who := by
        have := congrArg (List.take who.length) h2
        rwa [List.take_take, Nat.min_eq_left (by omega), List.take_left'] at this
        rfl
      refine ⟨by omega, ht, fun p hp1 hp2 => ?_⟩
      by_cases hpe : p = who.length
      · subst hpe
        exact ⟨i, hu, List.mem_range.1 hi, hc.1, by rw [ht]; exact hc.2⟩
      · exact h3 p (by omega) hp2
    · cases hg

theorem range_split {n a : Nat} {l1 l2 : List Nat} (h : List.range n = l1 ++ a :: l2) : a = l1.length ∧ ∀ x, x < a → x ∈ l1 := by
  have hlen : l1.length < n := by
    have := congrArg List.length h
    rw [List.length_range, List.length_append, List.length_cons] at this
    omega
  have hget : ∀ i, i < n → (l1 ++ a :: l2)[i]? = some i := fun i hi => by rw [← h]; exact List.getElem?_range hi
  have ha : a = l1.length := by
    have := hget l1.length hlen
    rw [List.getElem?_append_right (Nat.le_refl _), Nat.sub_self] at this
    simpa using this
  refine ⟨ha, fun x hx => ?_⟩
  have := hget x (by omega)
  rw [List.getElem?_append_left (by omega)] at this
  exact List.mem_of_getElem? this

theorem fillG_first {ok : Nat → Nat → Bool} {n : Nat} : ∀ (r : Nat) (who l' : List Int), l'.length = who.length + r → l'.take who.length = who → extP ok n l' who.length → ∃ l, fillG ok n r who = some l ∧ lexL l l'
  | 0, who, l', h1, h2, h3 => ⟨who, rfl, .inl (by rw [← h2, List.take_of_length_le (by omega)])⟩
  | r + 1, who, l', h1, h2, h3 => by
    obtain ⟨i', hu, hin, hok, hni⟩ := h3 who.length (Nat.le_refl _) (by omega)
    rw [h2] at hni
    have ht : l'.take (who ++ [(i' : Int)]).length = who ++ [(i' : Int)] := by
      rw [List.length_append, List.length_singleton, take_next hu, h2]
    obtain ⟨l1, hl1, hx1⟩ := fillG_first r (who ++ [(i' : Int)]) l' (by rw [List.length_append, List.length_singleton]; omega) ht (fun p hp1 hp2 => h3 p (by rw [List.length_append] at hp1; omega) hp2)
    have hG : (if ok who.length i' && !decide ((i' : Int) ∈ who) then fillG ok n r (who ++ [(i' : Int)]) else none) = some l1 := by
      rw [hok, decide_eq_false hni]
      exact hl1
    rw [fillG]
    cases hres : (List.range n).findSome? fun i => if ok who.length i && !decide ((i : Int) ∈ who) then fillG ok n r (who ++ [(i : Int)]) else none with
    | none =>
      rw [List.findSome?_eq_none_iff] at hres
      have := hres i' (List.mem_range.2 hin)
      rw [hG] at this
      cases this
    | some b =>
      refine ⟨b, rfl, ?_⟩
      obtain ⟨m1, a, m2, hm, hb, hnone⟩ := List.findSome?_eq_some_iff.1 hres
      obtain ⟨ha, hlt⟩ := range_split hm
      by_cases c1 : i' < a
      · have := hnone i' (hlt i' c1)
        rw [hG] at this
        cases this
      · by_cases c2 : a = i'
        · subst c2
          rw [hG] at hb
          cases hb
          exact hx1
        · split at hb
          · obtain ⟨k1, k2, k3⟩ := fillG_some hb
            rw [List.length_append, List.length_singleton] at k1 k2
            have hbu : b[who.length]? = some (a : Int) := by
              have : (b.take (who.length + 1))[who.length]? = some (a : Int) := by rw [k2, List.getElem?_append_right (Nat.le_refl _), Nat.sub_self]; rfl
              rwa [List.getElem?_take, if_pos (by omega)] at this
            have hbt : b.take who.length = who := by
              have := congrArg (List.take who.length) k2
              rwa [List.take_take, Nat.min_eq_left (by omega), List.take_left'] at this
              rfl
            exact .inr ⟨who.length, a, i', by rw [hbt, h2], hbu, hu, by omega⟩
          · cases hb

/-- A crew at a tick. -/
def crewP (s : Stn) (call len : Int) (seats : List Int) (j : Nat) (l : List Int) : Prop := l.length = seats.length ∧ extP (okS (atL s call len (call + (j : Int))) s.hands seats) s.hands.length l 0

theorem musG_none {s : Stn} {call len : Int} {seats : List Int} (h : musG s call len seats = none) : ∀ j, j ≤ 100 → ∀ l, ¬ crewP s call len seats j l := by
  intro j hj l hc
  unfold musG at h
  rw [List.findSome?_eq_none_iff] at h
  have := h j (List.mem_range.2 (by omega))
  obtain ⟨l1, h1, _⟩ := fillG_first seats.length [] l (by rw [hc.1]; simp) rfl hc.2
  rw [h1] at this
  cases this

theorem musG_some {s : Stn} {call len : Int} {seats : List Int} {j : Nat} {l : List Int} (h : musG s call len seats = some (j, l)) : j ≤ 100 ∧ crewP s call len seats j l ∧ (∀ j', j' < j → ∀ l', ¬ crewP s call len seats j' l') ∧ ∀ l', crewP s call len seats j l' → lexL l l' := by
  unfold musG at h
  obtain ⟨m1, a, m2, hm, hb, hnone⟩ := List.findSome?_eq_some_iff.1 h
  obtain ⟨ha, hlt⟩ := range_split hm
  have ha101 : a < 101 := by
    have : a ∈ List.range 101 := by rw [hm]; simp
    exact List.mem_range.1 this
  obtain ⟨l1, h1, h2⟩ := Option.map_eq_some_iff.1 hb
  cases h2
  obtain ⟨k1, k2, k3⟩ := fillG_some h1
  refine ⟨by omega, ⟨by rw [k1]; simp, k3⟩, fun j' hj' l' hc => ?_, fun l' hc => ?_⟩
  · have := hnone j' (hlt j' hj')
    obtain ⟨l2, h2, _⟩ := fillG_first seats.length [] l' (by rw [hc.1]; simp) rfl hc.2
    rw [h2] at this
    cases this
  · obtain ⟨l2, h2, h3⟩ := fillG_first seats.length [] l' (by rw [hc.1]; simp) rfl hc.2
    rw [h1] at h2
    cases h2
    exact h3

theorem musG_isSome {s : Stn} {call len : Int} {seats : List Int} {j : Nat} {l : List Int} (hj : j ≤ 100) (hc : crewP s call len seats j l) : ∃ j' l', musG s call len seats = some (j', l') ∧ j' ≤ j := by
  cases h : musG s call len seats with
  | none => exact absurd hc (musG_none h j hj l)
  | some q =>
    obtain ⟨j', l'⟩ := q
    refine ⟨j', l', rfl, ?_⟩
    have := (musG_some h).2.2.1
    exact Classical.byContradiction fun hn => this j (by omega) l hc

theorem can_at {s : Stn} {call len tick : Int} {i : Nat} {h : Hnd} (hh : s.hands[i]? = some h) (seats : List Int) (p : Nat) : okS (atL s call len tick) s.hands seats p i = (canB s call len tick h && hasB h.skills (seats.getD p 0)) := by
  unfold okS atL
  simp only [List.getD_eq_getElem?_getD, List.getElem?_map, hh, Option.map_some, Option.getD_some]

theorem crew_right {s : Stn} {call len : Int} (hok : s.okB = true) (hc : 0 ≤ call ∧ call ≤ 100) (hl : 1 ≤ len ∧ len ≤ 40) (seats : List Int) (j : Nat) (hj : j ≤ 100) (l : List Int) : crewP s call len seats j l ↔ rightP s call len (call + (j : Int)) seats l := by
  have hob := okB_of hok
  have key : ∀ (i : Nat) (h : Hnd) (p : Nat), s.hands[i]? = some h → (okS (atL s call len (call + (j : Int))) s.hands seats p i = true ↔ (h.ans = 1 ∧ bitS .and .i64 h.skills (seats.getD p 0) = seats.getD p 0 ∧ call + h.high ≤ call + j ∧ ¬ tiredP s h [(call + (j : Int), call + (j : Int) + len - 1)])) := fun i h p hh => by
    have hhb := handB_of (hob.2.2.2 h (List.mem_of_getElem? hh))
    rw [can_at hh]
    unfold canB hasB
    rw [tired_serv hob.2.1 hhb.2.2.2.2.1 (newOk_one ⟨by omega, by omega, by omega⟩), ← may_serv hob.2.1 hhb.2.2.2.2.1 (by omega) hl.1 (by omega)]
    simp only [Bool.and_eq_true, decide_eq_true_eq, Classical.not_not]
    constructor
    · rintro ⟨⟨⟨a1, a2⟩, a3⟩, a4⟩
      exact ⟨a1, a4, a2, a3⟩
    · rintro ⟨a1, a4, a2, a3⟩
      exact ⟨⟨⟨a1, a2⟩, a3⟩, a4⟩
  unfold crewP rightP extP
  constructor
  · rintro ⟨h1, h2⟩
    refine ⟨h1, fun p hp => ?_⟩
    obtain ⟨i, a1, a2, a3, a4⟩ := h2 p (Nat.zero_le _) hp
    have hh := List.getElem?_eq_getElem a2
    exact ⟨i, _, a1, hh, a4, (key i _ p hh).1 a3⟩
  · rintro ⟨h1, h2⟩
    refine ⟨h1, fun p _ hp => ?_⟩
    obtain ⟨i, h, a1, hh, a4, a3⟩ := h2 p hp
    exact ⟨i, a1, (List.getElem?_eq_some_iff.1 hh).1, (key i _ p hh).2 a3, a4⟩

end Go.Proofs.Ytlbcgkoncnablaa

namespace Go.Proofs.Ytlbcgkoncnablaa
open Go.RowKit Go.SX
set_option maxRecDepth 10000
set_option maxHeartbeats 8000000
set_option linter.unusedSimpArgs false
set_option linter.unusedVariables false

/-! ### slices.DeleteFunc, slices.Clone -/

/-- Where the first one is. -/
theorem indexF_fn (w : World) (X : Nat → Prop) (v : Value) (A B : List Int) (x : Int) (g : Nat) (cap : List Value) (p : Int → Bool) (hs : ∀ w', Keep X w w' → Sl w' v 1 (ints (A ++ x :: B))) (hb : (A ++ x :: B).length ≤ 1099511627776) (hp : Tells w (fun _ => False) vI g cap p) (hA : ∀ y ∈ A, p y = false) (hx : p x = true) :
    SX.Fn Try.prog 88 [v, .func (.func g) [].toArray cap.toArray] w (fun _ => False) fun r N => r = I A.length := by
  have hs0 := hs w (Keep.refl _ w)
  obtain ⟨a, n, c, rfl⟩ := hs0.shape
  have hn := hs0.le i1_len (by omega)
  have hr := hs0.rd0
  have hT := hp.1
  have hd := fun m => detP_eq vI_inj g cap p m
  have hnl : n = A.length + 1 + B.length := by rw [← hn, List.length_append, List.length_cons]; omega
  refine walk [] [] (detP_ok vI_inj hp) Try.func88 rfl Try.ntmps88 res88 (by kernel_rfl) no_facts ?_
  simp (config := { maxSteps := 4000000 }) only [↓sx0, ↓sx1, ↓sx2, ↓sx3, ↓sx4, ↓sx5, ↓sx6, sx0, sx1, sx2, sx3, sx4, sx5, sx6, tf88, ev3_hold, sxo, sxc, sxp, sxq, sxr, sxs, sxl, sxm, Int.reduceBEq, Int.reduceBNe, Int.reduceLT, Int.reduceLE, Int.reduceEq, Int.reduceGT, Int.reduceGE, Int.reduceToNat, ↓reduceIte, List.reduceReplicate, Nat.reduceAdd, Nat.reduceSub, Nat.reduceMul, Nat.reduceLT, Nat.reduceLeDiff, Nat.reduceBEq, Nat.reduceEqDiff]
  refine loop_const [(4, 5), (8, 18)] (fun k : Nat => [(8, I k)]) (fun k H1 => H1 = [] ∧ k ≤ A.length) (fun k => n - k) 0 ?_ ⟨rfl, Nat.zero_le _⟩ ?_
  · simp (config := { maxSteps := 4000000 }) only [↓sx0, ↓sx1, ↓sx2, ↓sx3, ↓sx4, ↓sx5, ↓sx6, sx0, sx1, sx2, sx3, sx4, sx5, sx6, tf88, ev3_hold, sxo, sxc, sxp, sxq, sxr, sxs, sxl, sxm, Int.reduceBEq, Int.reduceBNe, Int.reduceLT, Int.reduceLE, Int.reduceEq, Int.reduceGT, Int.reduceGE, Int.reduceToNat, ↓reduceIte, List.reduceReplicate, Nat.reduceAdd, Nat.reduceSub, Nat.reduceMul, Nat.reduceLT, Nat.reduceLeDiff, Nat.reduceBEq, Nat.reduceEqDiff]
    simp
  · rintro k H1 g1 ⟨rfl, hk⟩
    have e7 : ((k : Int) < (n : Int)) = True := eq_true (by omega)
    have e2 : wr (k + 1) = ((k + 1 : Nat) : Int) := (wrap_id (by omega)).trans (by omega)
    by_cases hkn : k = A.length
    · subst hkn
      have hu : (A ++ x :: B)[A.length]? = some x := by rw [List.getElem?_append_right (Nat.le_refl _), Nat.sub_self]; rfl
      have hdk := hd x
      rw [vI, hx] at hdk
      simp (config := { maxSteps := 4000000 }) only [↓sx0, ↓sx1, ↓sx2, ↓sx3, ↓sx4, ↓sx5, ↓sx6, sx0, sx1, sx2, sx3, sx4, sx5, sx6, tf88, ev3_hold, sxo, sxc, sxp, sxq, sxr, sxs, sxl, sxm, Int.reduceBEq, Int.reduceBNe, Int.reduceLT, Int.reduceLE, Int.reduceEq, Int.reduceGT, Int.reduceGE, Int.reduceToNat, ↓reduceIte, List.reduceReplicate, Nat.reduceAdd, Nat.reduceSub, Nat.reduceMul, Nat.reduceLT, Nat.reduceLeDiff, Nat.reduceBEq, Nat.reduceEqDiff, e7]
      refine amid (at_1 (hr _) i1_len hu rfl fun ad => ?_)
      simp (config := { maxSteps := 4000000 }) only [↓sx0, ↓sx1, ↓sx2, ↓sx3, ↓sx4, ↓sx5, ↓sx6, sx0, sx1, sx2, sx3, sx4, sx5, sx6, tf88, ev3_hold, sxo, sxc, sxp, sxq, sxr, sxs, sxl, sxm, Int.reduceBEq, Int.reduceBNe, Int.reduceLT, Int.reduceLE, Int.reduceEq, Int.reduceGT, Int.reduceGE, Int.reduceToNat, ↓reduceIte, List.reduceReplicate, Nat.reduceAdd, Nat.reduceSub, Nat.reduceMul, Nat.reduceLT, Nat.reduceLeDiff, Nat.reduceBEq, Nat.reduceEqDiff, e2, hT, hdk]
    · have hkl : k < A.length := by omega
      have hu : (A ++ x :: B)[k]? = some A[k] := by rw [List.getElem?_append_left hkl]; exact List.getElem?_eq_getElem hkl
      have hdk := hd A[k]
      rw [vI, hA _ (List.getElem_mem hkl)] at hdk
      simp (config := { maxSteps := 4000000 }) only [↓sx0, ↓sx1, ↓sx2, ↓sx3, ↓sx4, ↓sx5, ↓sx6, sx0, sx1, sx2, sx3, sx4, sx5, sx6, tf88, ev3_hold, sxo, sxc, sxp, sxq, sxr, sxs, sxl, sxm, Int.reduceBEq, Int.reduceBNe, Int.reduceLT, Int.reduceLE, Int.reduceEq, Int.reduceGT, Int.reduceGE, Int.reduceToNat, ↓reduceIte, List.reduceReplicate, Nat.reduceAdd, Nat.reduceSub, Nat.reduceMul, Nat.reduceLT, Nat.reduceLeDiff, Nat.reduceBEq, Nat.reduceEqDiff, e7]
      refine amid (at_1 (hr _) i1_len hu rfl fun ad => ?_)
      simp (config := { maxSteps := 4000000 }) only [↓sx0, ↓sx1, ↓sx2, ↓sx3, ↓sx4, ↓sx5, ↓sx6, sx0, sx1, sx2, sx3, sx4, sx5, sx6, tf88, ev3_hold, sxo, sxc, sxp, sxq, sxr, sxs, sxl, sxm, Int.reduceBEq, Int.reduceBNe, Int.reduceLT, Int.reduceLE, Int.reduceEq, Int.reduceGT, Int.reduceGE, Int.reduceToNat, ↓reduceIte, List.reduceReplicate, Nat.reduceAdd, Nat.reduceSub, Nat.reduceMul, Nat.reduceLT, Nat.reduceLeDiff, Nat.reduceBEq, Nat.reduceEqDiff, e2, hT, hdk]
      exact ⟨k + 1, _, rfl, HImp.refl _ _, ⟨rfl, by omega⟩, by omega⟩

theorem del_fn (w : World) (ad : Addr) (n c : Nat) (A B : List Int) (x : Int) (hn : (A ++ x :: B).length = n) (hb : n ≤ 1000) (g : Nat) (cap : List Value) (p : Int → Bool) (hrow : HO.ok w (.row (.slice (some ad) n c) 3 1 (ints (A ++ x :: B))))
    (hT : Tells w (fpsx [.row (.slice (some ad) n c) 3 1 (ints (A ++ x :: B))]) vI g cap p) (hA : ∀ y ∈ A, p y = false) (hx : p x = true) (hB : ∀ y ∈ B, p y = false) (hg : g ≠ 88) :
    SX.Fn Try.prog 70 [.slice (some ad) n c, .func (.func g) [].toArray cap.toArray] w (fpsx [.row (.slice (some ad) n c) 3 1 (ints (A ++ x :: B))]) fun r N => r = .slice (some ad) (n - 1) c ∧ N = [.row (.slice (some ad) n c) 3 1 (ints ((A ++ B) ++ [0]))] := by
  have hd := fun m => detP_eq vI_inj g cap p m
  have hnl : n = A.length + 1 + B.length := by rw [← hn, List.length_append, List.length_cons]; omega
  refine walk [] [] (detP_ok vI_inj hT) Try.func70 rfl Try.ntmps70 res70 (by kernel_rfl) (H0 := [.row (.slice (some ad) n c) 3 1 (ints (A ++ x :: B))]) ⟨fun g hg => by rw [List.mem_singleton] at hg; subst hg; exact hrow, fun g hg b hb => ⟨g, hg, by rw [List.mem_singleton] at hg; subst hg; exact hb⟩, List.pairwise_singleton _ _⟩ ?_
  have dn : ∀ xs, detP vI g cap p 88 xs = none := fun xs => by
    unfold detP
    rw [dif_neg fun h => hg h.1.symm]
  have hTc := hT.1
  have had : ad.add 0 = ad := by
    rcases hrow with ⟨h, _⟩ | ⟨b, off, len', cap', arr, hv, _, _, h, _⟩
    · cases h
    · cases hv
      rfl
  have hnc : n ≤ c := by
    rcases hrow with ⟨h, _⟩ | ⟨b, off, len', cap', arr, hv, _, _, h, _⟩
    · cases h
    · cases hv
      exact h
  have e4 : wr ((A.length : Int) + 1) = ((A.length + 1 : Nat) : Int) := (wrap_id (by omega)).trans (by omega)
  have e5 : ((A.length : Int) = -1) = False := eq_false (by omega)
  have hli : (ints (A ++ x :: B)).length = n := by rw [cat_len i1_len, hn, Nat.mul_one]
  simp (config := { maxSteps := 4000000 }) only [↓sx0, ↓sx1, ↓sx2, ↓sx3, ↓sx4, ↓sx5, ↓sx6, sx0, sx1, sx2, sx3, sx4, sx5, sx6, tf70, ev3_hold, sxo, sxc, sxp, sxq, sxr, sxs, sxl, sxm, Int.reduceBEq, Int.reduceBNe, Int.reduceLT, Int.reduceLE, Int.reduceEq, Int.reduceGT, Int.reduceGE, Int.reduceToNat, ↓reduceIte, List.reduceReplicate, Nat.reduceAdd, Nat.reduceSub, Nat.reduceMul, Nat.reduceLT, Nat.reduceLeDiff, Nat.reduceBEq, Nat.reduceEqDiff, dn]
  refine CallOb.pureH (fun w' hp' => indexF_fn w' (fun _ => False) _ A B x g cap p (fun w2 hk => Sl.keep (row_hp List.mem_cons_self hp') hk (fun _ _ => id)) (by omega) ⟨hT.1, fun w2 hk => hT.2 w2 (hk.into hp'.ext fun _ h => h.elim)⟩ hA hx) ?_
  rintro r N rfl
  refine ⟨?_⟩
  simp (config := { maxSteps := 4000000 }) only [↓sx0, ↓sx1, ↓sx2, ↓sx3, ↓sx4, ↓sx5, ↓sx6, sx0, sx1, sx2, sx3, sx4, sx5, sx6, tf70, ev3_hold, sxo, sxc, sxp, sxq, sxr, sxs, sxl, sxm, Int.reduceBEq, Int.reduceBNe, Int.reduceLT, Int.reduceLE, Int.reduceEq, Int.reduceGT, Int.reduceGE, Int.reduceToNat, ↓reduceIte, List.reduceReplicate, Nat.reduceAdd, Nat.reduceSub, Nat.reduceMul, Nat.reduceLT, Nat.reduceLeDiff, Nat.reduceBEq, Nat.reduceEqDiff, e5, e4]
  refine loop_constH [.row (.slice (some ad) n c) 3 1 (ints (A ++ x :: B))] (HImp.app _ _ _) [(5, 7), (16, 35)] (fun k : Nat => [(5, I ((A.length + k : Nat) : Int)), (6, I ((A.length + 1 + k : Nat) : Int))]) (fun k H1 => k ≤ B.length ∧ H1 = [.row (.slice (some ad) n c) 3 1 (ints (A ++ (B.take k ++ (x :: B).drop k)))]) (fun k => B.length - k) 0 ?_ ⟨Nat.zero_le _, by simp⟩ ?_
  · simp (config := { maxSteps := 4000000 }) only [↓sx0, ↓sx1, ↓sx2, ↓sx3, ↓sx4, ↓sx5, ↓sx6, sx0, sx1, sx2, sx3, sx4, sx5, sx6, tf70, ev3_hold, sxo, sxc, sxp, sxq, sxr, sxs, sxl, sxm, Int.reduceBEq, Int.reduceBNe, Int.reduceLT, Int.reduceLE, Int.reduceEq, Int.reduceGT, Int.reduceGE, Int.reduceToNat, ↓reduceIte, List.reduceReplicate, Nat.reduceAdd, Nat.reduceSub, Nat.reduceMul, Nat.reduceLT, Nat.reduceLeDiff, Nat.reduceBEq, Nat.reduceEqDiff]
    try simp
  rintro k H1 g1 ⟨hk, rfl⟩
  have hcl : (A ++ (B.take k ++ (x :: B).drop k)).length = n := by
    rw [List.length_append, List.length_append, List.length_take, List.length_drop, List.length_cons]
    omega
  by_cases hkn : k = B.length
  · subst hkn
    have e7 : (((A.length + 1 + B.length : Nat) : Int) < (n : Int)) = False := eq_false (by omega)
    have e10 : (c = A.length + B.length) = False := eq_false (by omega)
    have e11 : (((A.length + B.length : Nat) : Int) ≤ (n : Int)) = True := eq_true (by omega)
    have hcb : ints (A ++ (B.take B.length ++ (x :: B).drop B.length)) = ints (A ++ B) ++ ints ((x :: B).drop B.length) := by
      rw [List.take_of_length_le (Nat.le_refl _), ← List.append_assoc]
      exact cat_append _ _ _
    have hdl : ((x :: B).drop B.length).length = 1 := by rw [List.length_drop, List.length_cons]; omega
    have hab : (ints (A ++ B)).length = (A.length + B.length) * 1 := by rw [cat_len i1_len, List.length_append]
    have hfin : (ints (A ++ (B.take B.length ++ (x :: B).drop B.length))).take ((A.length + B.length) * 1) ++ List.replicate (n - (A.length + B.length)) (I 0) ++ (ints (A ++ (B.take B.length ++ (x :: B).drop B.length))).drop ((A.length + B.length) * 1 + (n - (A.length + B.length))) = ints ((A ++ B) ++ [0]) := by
      have h2 : ints ((A ++ B) ++ [0]) = ints (A ++ B) ++ ints [0] := cat_append _ _ _
      have hq1 : (ints ((x :: B).drop B.length)).length = 1 := by rw [cat_len i1_len, hdl]
      rw [h2, hcb, show n - (A.length + B.length) = 1 by omega]
      generalize ints ((x :: B).drop B.length) = Q at hq1
      generalize ints (A ++ B) = P' at hab
      rw [List.take_left' hab, List.drop_of_length_le (by rw [List.length_append]; omega), List.append_nil]
      rfl
    refine ⟨?_⟩
    simp (config := { maxSteps := 4000000 }) only [↓sx0, ↓sx1, ↓sx2, ↓sx3, ↓sx4, ↓sx5, ↓sx6, sx0, sx1, sx2, sx3, sx4, sx5, sx6, tf70, ev3_hold, sxo, sxc, sxp, sxq, sxr, sxs, sxl, sxm, Int.reduceBEq, Int.reduceBNe, Int.reduceLT, Int.reduceLE, Int.reduceEq, Int.reduceGT, Int.reduceGE, Int.reduceToNat, ↓reduceIte, List.reduceReplicate, Nat.reduceAdd, Nat.reduceSub, Nat.reduceMul, Nat.reduceLT, Nat.reduceLeDiff, Nat.reduceBEq, Nat.reduceEqDiff, e7, e10]
    refine ⟨fun h => h, by omega, by omega, clr_row (T := 38) (e := 3) (bytes := 8) (z := I 0) (by kernel_rfl) rfl (A := []) rfl (by omega) ?_⟩
    rw [hfin]
    simp (config := { maxSteps := 4000000 }) only [↓sx0, ↓sx1, ↓sx2, ↓sx3, ↓sx4, ↓sx5, ↓sx6, sx0, sx1, sx2, sx3, sx4, sx5, sx6, tf70, ev3_hold, sxo, sxc, sxp, sxq, sxr, sxs, sxl, sxm, Int.reduceBEq, Int.reduceBNe, Int.reduceLT, Int.reduceLE, Int.reduceEq, Int.reduceGT, Int.reduceGE, Int.reduceToNat, ↓reduceIte, List.reduceReplicate, Nat.reduceAdd, Nat.reduceSub, Nat.reduceMul, Nat.reduceLT, Nat.reduceLeDiff, Nat.reduceBEq, Nat.reduceEqDiff, e11]
    refine ⟨by omega, by omega, ?_⟩
    rw [had, if_neg (by omega), show A.length + B.length - 0 = n - 1 by omega, Nat.sub_zero]
  have e7 : (((A.length + 1 + k : Nat) : Int) < (n : Int)) = True := eq_true (by omega)
  have e8 : wr (((A.length + 1 + k : Nat) : Int) + 1) = ((A.length + 1 + (k + 1) : Nat) : Int) := (wrap_id (by omega)).trans (by omega)
  have e9 : wr (((A.length + k : Nat) : Int) + 1) = ((A.length + (k + 1) : Nat) : Int) := (wrap_id (by omega)).trans (by omega)
  have hkl : k < B.length := by omega
  have hu : (A ++ (B.take k ++ (x :: B).drop k))[A.length + 1 + k]? = some B[k] := by
    rw [List.getElem?_append_right (by omega), List.getElem?_append_right (by rw [List.length_take]; omega), List.length_take, Nat.min_eq_left (by omega), List.getElem?_drop, show k + (A.length + 1 + k - A.length - k) = k + 1 by omega, List.getElem?_cons_succ, List.getElem?_eq_getElem hkl]
  have hset : (A ++ (B.take k ++ (x :: B).drop k)).set (A.length + k) B[k] = A ++ (B.take (k + 1) ++ (x :: B).drop (k + 1)) := by
    rw [List.set_append, if_neg (by omega), List.set_append, if_neg (by rw [List.length_take]; omega), List.length_take, Nat.min_eq_left (by omega), show A.length + k - A.length - k = 0 by omega]
    congr 1
    have h1 : (x :: B).drop k = (x :: B)[k]'(by simp; omega) :: (x :: B).drop (k + 1) := List.drop_eq_getElem_cons (by simp; omega)
    rw [h1, List.set_cons_zero, ← List.take_append_getElem hkl, List.append_assoc]
    rfl
  have hBk := hB _ (List.getElem_mem hkl)
  generalize B[k] = y at hu hset hBk
  have hdk := hd y
  rw [vI, hBk] at hdk
  refine ⟨?_⟩
  simp (config := { maxSteps := 4000000 }) only [↓sx0, ↓sx1, ↓sx2, ↓sx3, ↓sx4, ↓sx5, ↓sx6, sx0, sx1, sx2, sx3, sx4, sx5, sx6, tf70, ev3_hold, sxo, sxc, sxp, sxq, sxr, sxs, sxl, sxm, Int.reduceBEq, Int.reduceBNe, Int.reduceLT, Int.reduceLE, Int.reduceEq, Int.reduceGT, Int.reduceGE, Int.reduceToNat, ↓reduceIte, List.reduceReplicate, Nat.reduceAdd, Nat.reduceSub, Nat.reduceMul, Nat.reduceLT, Nat.reduceLeDiff, Nat.reduceBEq, Nat.reduceEqDiff, e7]
  refine amid (at_1 (row_rdv (E := 3) List.mem_cons_self ⟨_, _, _, rfl, by rw [cat_len i1_len, hcl], fun h => by cases h⟩) i1_len hu rfl fun ad1 => ?_)
  simp (config := { maxSteps := 4000000 }) only [↓sx0, ↓sx1, ↓sx2, ↓sx3, ↓sx4, ↓sx5, ↓sx6, sx0, sx1, sx2, sx3, sx4, sx5, sx6, tf70, ev3_hold, sxo, sxc, sxp, sxq, sxr, sxs, sxl, sxm, Int.reduceBEq, Int.reduceBNe, Int.reduceLT, Int.reduceLE, Int.reduceEq, Int.reduceGT, Int.reduceGE, Int.reduceToNat, ↓reduceIte, List.reduceReplicate, Nat.reduceAdd, Nat.reduceSub, Nat.reduceMul, Nat.reduceLT, Nat.reduceLeDiff, Nat.reduceBEq, Nat.reduceEqDiff, hTc, hdk]
  refine ⟨by omega, by omega, _, rfl, ?_⟩
  refine wr_at (A := []) (f := i1) (u := y) rfl i1_len (by omega) (by omega) ?_
  rw [hset]
  simp (config := { maxSteps := 4000000 }) only [↓sx0, ↓sx1, ↓sx2, ↓sx3, ↓sx4, ↓sx5, ↓sx6, sx0, sx1, sx2, sx3, sx4, sx5, sx6, tf70, ev3_hold, sxo, sxc, sxp, sxq, sxr, sxs, sxl, sxm, Int.reduceBEq, Int.reduceBNe, Int.reduceLT, Int.reduceLE, Int.reduceEq, Int.reduceGT, Int.reduceGE, Int.reduceToNat, ↓reduceIte, List.reduceReplicate, Nat.reduceAdd, Nat.reduceSub, Nat.reduceMul, Nat.reduceLT, Nat.reduceLeDiff, Nat.reduceBEq, Nat.reduceEqDiff, e8, e9]
  exact ⟨k + 1, _, ⟨rfl, rfl⟩, HImp.refl _ _, ⟨by omega, rfl⟩, by omega⟩

theorem lack1_fn (w : World) (b : Nat) (i x : Int) (hc : w.cell? ⟨b, 0, none⟩ = some (I i)) : SX.Fn Try.prog 72 [I x, .pointer (some ⟨b, 0, none⟩)] w (fun _ => False) fun r N => r = .bool (decide (x = i)) := by
  refine walk [] [] (det0_ok _ _) Try.func72 rfl Try.ntmps72 res72 (by kernel_rfl) no_facts ?_
  simp (config := { maxSteps := 4000000 }) only [↓sx0, ↓sx1, ↓sx2, ↓sx3, ↓sx4, ↓sx5, ↓sx6, sx0, sx1, sx2, sx3, sx4, sx5, sx6, tf72, ev3_hold, sxo, sxc, sxp, sxq, sxr, sxs, sxl, sxm, Int.reduceBEq, Int.reduceBNe, Int.reduceLT, Int.reduceLE, Int.reduceEq, Int.reduceGT, Int.reduceGE, Int.reduceToNat, ↓reduceIte, List.reduceReplicate, Nat.reduceAdd, Nat.reduceSub, Nat.reduceMul, Nat.reduceLT, Nat.reduceLeDiff, Nat.reduceBEq, Nat.reduceEqDiff]
  refine ld_old hc id ?_
  simp (config := { maxSteps := 4000000 }) only [↓sx0, ↓sx1, ↓sx2, ↓sx3, ↓sx4, ↓sx5, ↓sx6, sx0, sx1, sx2, sx3, sx4, sx5, sx6, tf72, ev3_hold, sxo, sxc, sxp, sxq, sxr, sxs, sxl, sxm, Int.reduceBEq, Int.reduceBNe, Int.reduceLT, Int.reduceLE, Int.reduceEq, Int.reduceGT, Int.reduceGE, Int.reduceToNat, ↓reduceIte, List.reduceReplicate, Nat.reduceAdd, Nat.reduceSub, Nat.reduceMul, Nat.reduceLT, Nat.reduceLeDiff, Nat.reduceBEq, Nat.reduceEqDiff]
  by_cases h : x = i <;> simp [h]

theorem clone_fn (w : World) (v : Value) (l : List Int) (hs : Sl w v 1 (ints l)) (ad : Addr) (n c : Nat) (hv : v = .slice (some ad) n c) (hb : l.length ≤ 1000000) : SX.Fn Try.prog 71 [v] w (fun _ => False) fun r N => ∃ ad c, r = .slice ad l.length c ∧ (ad = none → l = []) ∧ N = [.row (.slice ad l.length c) 3 1 (ints l)] := by
  have hs0 := hs
  subst hv
  have hn := hs.le i1_len (by omega)
  subst hn
  refine walk [] [] (det0_ok _ _) Try.func71 rfl Try.ntmps71 res71 (by kernel_rfl) no_facts ?_
  simp (config := { maxSteps := 4000000 }) only [↓sx0, ↓sx1, ↓sx2, ↓sx3, ↓sx4, ↓sx5, ↓sx6, sx0, sx1, sx2, sx3, sx4, sx5, sx6, tf71, ev3_hold, sxo, sxc, sxp, sxq, sxr, sxs, sxl, sxm, Int.reduceBEq, Int.reduceBNe, Int.reduceLT, Int.reduceLE, Int.reduceEq, Int.reduceGT, Int.reduceGE, Int.reduceToNat, ↓reduceIte, List.reduceReplicate, Nat.reduceAdd, Nat.reduceSub, Nat.reduceMul, Nat.reduceLT, Nat.reduceLeDiff, Nat.reduceBEq, Nat.reduceEqDiff]
  refine ⟨fun h => (by cases h), fun _ b => ?_⟩
  refine app_at (f := i1) (l := []) (m := l) (HImp.refl _ _) i1_len i1_one (fun w' hp' => Sl.hp (w0 := ⟨w, fun _ => False⟩) hs0 (fun _ _ => id) hp') (bytes := 8) (by simp only [List.length_nil]; omega) ?_
  intro ad3 c3 hnil
  rw [List.nil_append, List.length_nil, Nat.zero_add]
  simp (config := { maxSteps := 4000000 }) only [↓sx0, ↓sx1, ↓sx2, ↓sx3, ↓sx4, ↓sx5, ↓sx6, sx0, sx1, sx2, sx3, sx4, sx5, sx6, tf71, ev3_hold, sxo, sxc, sxp, sxq, sxr, sxs, sxl, sxm, Int.reduceBEq, Int.reduceBNe, Int.reduceLT, Int.reduceLE, Int.reduceEq, Int.reduceGT, Int.reduceGE, Int.reduceToNat, ↓reduceIte, List.reduceReplicate, Nat.reduceAdd, Nat.reduceSub, Nat.reduceMul, Nat.reduceLT, Nat.reduceLeDiff, Nat.reduceBEq, Nat.reduceEqDiff]
  exact ⟨ad3, c3, rfl, fun h => (hnil h).2, rfl⟩

end Go.Proofs.Ytlbcgkoncnablaa

namespace Go.Proofs.Ytlbcgkoncnablaa
open Go.RowKit Go.SX
set_option maxRecDepth 10000
set_option maxHeartbeats 0
set_option linter.unusedSimpArgs false
set_option linter.unusedVariables false

/-! ### Seats for which there is no crew -/

def natI (n : Nat) : List Int := (List.range n).map fun k : Nat => (k : Int)
theorem natI_len (n : Nat) : (natI n).length = n := by unfold natI; rw [List.length_map, List.length_range]
theorem natI_get {n i : Nat} (h : i < n) : (natI n)[i]? = some (i : Int) := by
  unfold natI
  rw [List.getElem?_map, List.getElem?_range h]
  rfl
theorem natI_succ (n : Nat) : natI (n + 1) = natI n ++ [(n : Int)] := by
  unfold natI
  rw [List.range_succ, List.map_append]
  rfl
theorem natI_drop {n i : Nat} (h : i < n) : (natI n).drop i = (i : Int) :: (natI n).drop (i + 1) := by
  have hl : i < (natI n).length := by rw [natI_len]; exact h
  rw [List.drop_eq_getElem_cons hl]
  have := natI_get h
  rw [List.getElem?_eq_getElem hl, Option.some.injEq] at this
  rw [this]
theorem natI_mem {n i : Nat} {y : Int} (h : y ∈ (natI n).drop i) : (i : Int) ≤ y ∧ y < n := by
  obtain ⟨k, hk⟩ := List.getElem?_of_mem h
  rw [List.getElem?_drop] at hk
  have hl := (List.getElem?_eq_some_iff.1 hk).1
  rw [natI_len] at hl
  rw [natI_get hl] at hk
  cases hk
  omega

/-- Which of the first i seats are kept. -/
def keptL (T : List Int → Bool) (n : Nat) : Nat → List Int
  | 0 => []
  | i + 1 => if T (keptL T n i ++ (natI n).drop (i + 1)) then keptL T n i ++ [(i : Int)] else keptL T n i

def leftL (T : List Int → Bool) (n i : Nat) : List Int := keptL T n i ++ (natI n).drop i

theorem keptL_mem {T : List Int → Bool} {n : Nat} : ∀ {i : Nat} {y : Int}, y ∈ keptL T n i → 0 ≤ y ∧ y < i
  | 0, y, h => by cases h
  | i + 1, y, h => by
    rw [keptL] at h
    split at h
    · rcases List.mem_append.1 h with h | h
      · have := keptL_mem h
        omega
      · rw [List.mem_singleton] at h
        omega
    · have := keptL_mem h
      omega
theorem keptL_len {T : List Int → Bool} {n : Nat} : ∀ i : Nat, (keptL T n i).length ≤ i
  | 0 => Nat.le_refl _
  | i + 1 => by
    have := keptL_len (T := T) (n := n) i
    rw [keptL]
    split
    · rw [List.length_append, List.length_singleton]; omega
    · omega
theorem leftL_zero (T : List Int → Bool) (n : Nat) : leftL T n 0 = natI n := rfl
theorem leftL_end (T : List Int → Bool) (n : Nat) : leftL T n n = keptL T n n := by
  unfold leftL
  rw [List.drop_of_length_le (by rw [natI_len]; exact Nat.le_refl _), List.append_nil]
theorem leftL_cons {T : List Int → Bool} {n i : Nat} (h : i < n) : leftL T n i = keptL T n i ++ (i : Int) :: (natI n).drop (i + 1) := by
  unfold leftL
  rw [natI_drop h]
theorem leftL_yes {T : List Int → Bool} {n i : Nat} (h : i < n) (ht : T (keptL T n i ++ (natI n).drop (i + 1)) = true) : leftL T n (i + 1) = leftL T n i := by
  rw [leftL_cons h]
  unfold leftL
  rw [keptL, if_pos ht, List.append_assoc]
  rfl
theorem leftL_no {T : List Int → Bool} {n i : Nat} (ht : T (keptL T n i ++ (natI n).drop (i + 1)) = false) : leftL T n (i + 1) = keptL T n i ++ (natI n).drop (i + 1) := by
  unfold leftL
  rw [keptL, ht]
  rfl
theorem leftL_len {T : List Int → Bool} {n i : Nat} (h : i ≤ n) : (leftL T n i).length ≤ n := by
  unfold leftL
  have := keptL_len (T := T) (n := n) i
  rw [List.length_append, List.length_drop, natI_len]
  omega

def pickS (seats l : List Int) : List Int := l.map fun k => seats.getD k.toNat 0
noncomputable def crewT (s : Stn) (call len : Int) (seats l : List Int) : Bool := (musG s call len (pickS seats l)).isSome

noncomputable def lackE (s : Stn) (call : Int) (seats : List Int) (len : Int) : Int := if callE s call seats len = 0 then (if (musG s call len seats).isSome then 3 else 0) else callE s call seats len
noncomputable def lackL (s : Stn) (call : Int) (seats : List Int) (len : Int) : List Int := if lackE s call seats len = 0 then keptL (crewT s call len seats) seats.length seats.length else []

/-- A list, and an error. -/
def LE2 (l : List Int) (e : Int) (r : Value) (N : List HO) : Prop := ∃ x, r = .tuple #[x, I e] ∧ Got x 3 1 i1 l N

theorem CaB.mono {B B' : List HO} {v : Value} {s : Stn} {a l : Int} {bc br bk : Nat} (h : CaB B v s a l bc br bk) (hm : ∀ g ∈ B, g ∈ B') : CaB B' v s a l bc br bk := by
  obtain ⟨⟨hv, ao, co, bs, h1, h2, h3, h4, h5, h6⟩, h7⟩ := h
  exact ⟨⟨hv, ao, co, bs, h1, hm _ h2, hm _ h3, h4, h5, fun i b h hb hh => hm _ (h6 i b h hb hh)⟩, hm _ h7⟩

theorem row_keepK {w0 w : World} {bk n : Nat} {kn : List (Nat → Int)} {B : List HO} {v : Value} {E sz : Nat} {xs : List Value} (hp : Hp ⟨w0, fun _ => False⟩ (knR bk n kn :: B) w) (hm : HO.row v E sz xs ∈ B) : ∀ w', Keep (fun b => b = bk) w w' → Sl w' v sz xs := fun w' hk => by
  have hnd := List.pairwise_cons.1 hp.nd
  have hne : ∀ g ∈ B, ∀ b, g.fp b → b ≠ bk := fun g hg b hb e => by
    subst e
    exact (hnd.1 g hg b knR_fp.1 hb).1 knR_fp.2
  exact RowOk.sl (E := E) (HO.stable (hp.ok _ (List.mem_cons_of_mem _ hm)) (hk.sameOn (fun b hb => HO.lt (hp.ok _ (List.mem_cons_of_mem _ hm)) hb) fun b hb => hne _ hm b hb) : HO.ok w' (.row v E sz xs))

/-- The call of muster, among other facts. -/
theorem mus_at {w0 w : World} {bc br bk : Nat} {v : Value} {s : Stn} {call len : Int} (hs0 : StOk w0 v s) (hok : s.okB = true) (hc : 0 ≤ call ∧ call ≤ 100) (hl : 1 ≤ len ∧ len ≤ 40) {B : List HO} (hcb : CaB B v s call len bc br bk) {kn : List (Nat → Int)} (hkn : KnOk s call len kn) (hp : Hp ⟨w0, fun _ => False⟩ ([knR bk s.hands.length kn] ++ B) w)
    {vs : Value} {seats : List Int} (hrow : HO.row vs 3 1 (ints seats) ∈ B) (hsl : seats.length ≤ 1000) :
    SX.Fn Try.prog 60 [.pointer (some ⟨bc, 0, none⟩), vs] w (fpsx [knR bk s.hands.length kn]) fun r N => ∃ kn', KnOk s call len kn' ∧ knR bk s.hands.length kn' ∈ N ∧ MusP call (musG s call len seats) r N :=
  muster_fn w bc br bk s call len hok hc hl (hcb.ca hp hs0) kn (hp.ok _ List.mem_cons_self) hkn vs seats (row_keepK hp hrow) hsl

end Go.Proofs.Ytlbcgkoncnablaa

namespace Go.Proofs.Ytlbcgkoncnablaa
open Go.RowKit Go.SX
set_option maxRecDepth 10000
set_option maxHeartbeats 0
set_option linter.unusedSimpArgs false
set_option linter.unusedVariables false

theorem lacking_fn (w : World) (v : Value) (s : Stn) (hs : StOk w v s) (hsm : s.small) (call : Int) (vs : Value) (seats : List Int) (hvs : Sl w vs 1 (ints seats)) (hlb : seats.length ≤ 1000) (len : Int) :
    SX.Fn Try.prog 38 [v, I call, vs, I len] w (fun _ => False) (LE2 (lackL s call seats len) (lackE s call seats len)) := by
  have hs0 := hs
  have hvs0 := hvs
  have hca := fun (H : List HO) w' (hp : Hp ⟨w, fun _ => False⟩ H w') => call_fn w' v s (hs0.hp hp) hsm call vs seats (hvs.hp (fun _ _ => id) hp) hlb len
  obtain ⟨hv, ps, rfl, hps, hsl, hlg⟩ := hs
  obtain ⟨a, n, c, rfl⟩ := hsl.shape
  obtain ⟨asx, ns, cs, rfl⟩ := hvs.shape
  have hns := hvs.le i1_len (by omega)
  subst hns
  have hrs := hvs0.rd0
  have dn : ∀ (g : Nat) (xs : List Value), det0 g xs = none := fun _ _ => rfl
  unfold lackL lackE
  refine walk [17] [] (det0_ok _ _) Try.func38 rfl Try.ntmps38 res38 (by kernel_rfl) no_facts ?_
  simp (config := { maxSteps := 4000000 }) only [↓sx0, ↓sx1, ↓sx2, ↓sx3, ↓sx4, ↓sx5, ↓sx6, sx0, sx1, sx2, sx3, sx4, sx5, sx6, tf38, ev3_hold, sxo, sxc, sxp, sxq, sxr, sxs, sxl, sxm, Int.reduceBEq, Int.reduceBNe, Int.reduceLT, Int.reduceLE, Int.reduceEq, Int.reduceGT, Int.reduceGE, Int.reduceToNat, ↓reduceIte, List.reduceReplicate, Nat.reduceAdd, Nat.reduceSub, Nat.reduceMul, Nat.reduceLT, Nat.reduceLeDiff, Nat.reduceBEq, Nat.reduceEqDiff, dn]
  refine CallOb.pureH (fun w' hp => hca _ w' hp) ?_
  rintro r N ⟨x, rfl, hx⟩
  by_cases he : callE s call seats len = 0
  case neg =>
    have e1 : (callE s call seats len = 0) = False := eq_false he
    rw [if_neg he, if_neg he]
    refine ⟨?_⟩
    simp (config := { maxSteps := 4000000 }) only [↓sx0, ↓sx1, ↓sx2, ↓sx3, ↓sx4, ↓sx5, ↓sx6, sx0, sx1, sx2, sx3, sx4, sx5, sx6, tf38, ev3_hold, sxo, sxc, sxp, sxq, sxr, sxs, sxl, sxm, Int.reduceBEq, Int.reduceBNe, Int.reduceLT, Int.reduceLE, Int.reduceEq, Int.reduceGT, Int.reduceGE, Int.reduceToNat, ↓reduceIte, List.reduceReplicate, Nat.reduceAdd, Nat.reduceSub, Nat.reduceMul, Nat.reduceLT, Nat.reduceLeDiff, Nat.reduceBEq, Nat.reduceEqDiff, e1]
    exact ⟨_, rfl, Got.nil _⟩
  have hbc := hx he
  obtain ⟨bc, rfl, hcn⟩ := hbc
  have hz := callE_zero he
  obtain ⟨hok, hc, hl, hsl5, _⟩ := hz
  have hsp := hcn.split
  obtain ⟨br, bk, B, hperm, hcb⟩ := hsp
  have hmu := fun w' (hp : Hp ⟨w, fun _ => False⟩ ([knR bk s.hands.length (List.replicate s.hands.length fun _ => 0)] ++ B) w') => muster_fn w' bc br bk s call len hok hc hl (hcb.ca hp hs0) _ (hp.ok _ List.mem_cons_self) (KnOk.zero s call len) (.slice asx seats.length cs) seats (fun w2 hk => hvs0.keepR (hp.ext.trans hk) fun b hb hx => by
    rcases hx with hx | hx
    · exact hx
    · have hbk : w.heap.size ≤ bk := (hp.old _ List.mem_cons_self bk knR_fp.2).resolve_left id
      have hx : b = bk := hx
      have := hb.2
      omega) hlb
  rw [if_pos he, he]
  refine ⟨?_⟩
  simp (config := { maxSteps := 4000000 }) only [↓sx0, ↓sx1, ↓sx2, ↓sx3, ↓sx4, ↓sx5, ↓sx6, sx0, sx1, sx2, sx3, sx4, sx5, sx6, tf38, ev3_hold, sxo, sxc, sxp, sxq, sxr, sxs, sxl, sxm, Int.reduceBEq, Int.reduceBNe, Int.reduceLT, Int.reduceLE, Int.reduceEq, Int.reduceGT, Int.reduceGE, Int.reduceToNat, ↓reduceIte, List.reduceReplicate, Nat.reduceAdd, Nat.reduceSub, Nat.reduceMul, Nat.reduceLT, Nat.reduceLeDiff, Nat.reduceBEq, Nat.reduceEqDiff, dn]
  refine CallOb.mutH (A := [knR bk s.hands.length (List.replicate s.hands.length fun _ => 0)]) (B := B) (HImp.perm (by simpa using hperm)) fps_knR hmu ?_
  rintro r N2 ⟨kn1, hkn1, hm1, hmus⟩
  rcases hmus with ⟨h3, rfl⟩ | ⟨j, l, x, h3, rfl, h4⟩
  case inr =>
    rw [h3]
    refine ⟨?_⟩
    simp (config := { maxSteps := 4000000 }) only [↓sx0, ↓sx1, ↓sx2, ↓sx3, ↓sx4, ↓sx5, ↓sx6, sx0, sx1, sx2, sx3, sx4, sx5, sx6, tf38, ev3_hold, sxo, sxc, sxp, sxq, sxr, sxs, sxl, sxm, Int.reduceBEq, Int.reduceBNe, Int.reduceLT, Int.reduceLE, Int.reduceEq, Int.reduceGT, Int.reduceGE, Int.reduceToNat, ↓reduceIte, List.reduceReplicate, Nat.reduceAdd, Nat.reduceSub, Nat.reduceMul, Nat.reduceLT, Nat.reduceLeDiff, Nat.reduceBEq, Nat.reduceEqDiff]
    exact ⟨_, rfl, Got.nil _⟩
  rw [h3]
  simp only [Option.isSome_none, Bool.false_eq_true, if_false, if_true]
  obtain ⟨T, hT⟩ : ∃ T, crewT s call len seats = T := ⟨_, rfl⟩
  have hTe : ∀ l, T l = (musG s call len (pickS seats l)).isSome := fun l => by rw [← hT]; rfl
  rw [hT]
  generalize hnn : seats.length = n at *
  refine ⟨?_⟩
  simp (config := { maxSteps := 4000000 }) only [↓sx0, ↓sx1, ↓sx2, ↓sx3, ↓sx4, ↓sx5, ↓sx6, sx0, sx1, sx2, sx3, sx4, sx5, sx6, tf38, ev3_hold, sxo, sxc, sxp, sxq, sxr, sxs, sxl, sxm, Int.reduceBEq, Int.reduceBNe, Int.reduceLT, Int.reduceLE, Int.reduceEq, Int.reduceGT, Int.reduceGE, Int.reduceToNat, ↓reduceIte, List.reduceReplicate, Nat.reduceAdd, Nat.reduceSub, Nat.reduceMul, Nat.reduceLT, Nat.reduceLeDiff, Nat.reduceBEq, Nat.reduceEqDiff]
  refine loop_constH (knR bk s.hands.length kn1 :: .row (.slice none 0 0) 3 1 [] :: B) (((HImp.append (HImp.pick hm1)).trans (HImp.nilRow _ _ _ _)).trans (HImp.swap _ _ _ _)) [(15, 16), (46, 53)] (fun q : Nat × Option Addr × Nat => [(15, .slice q.2.1 q.1 q.2.2), (46, I q.1)])
    (fun q H1 => q.1 ≤ n ∧ (q.2.1 = none → q.1 = 0) ∧ H1 = knR bk s.hands.length kn1 :: .row (.slice q.2.1 q.1 q.2.2) 3 1 (ints (natI q.1)) :: B) (fun q => n - q.1) (0, none, 0) ?_ ⟨Nat.zero_le _, fun _ => rfl, rfl⟩ ?_
  · simp (config := { maxSteps := 4000000 }) only [↓sx0, ↓sx1, ↓sx2, ↓sx3, ↓sx4, ↓sx5, ↓sx6, sx0, sx1, sx2, sx3, sx4, sx5, sx6, tf38, ev3_hold, sxo, sxc, sxp, sxq, sxr, sxs, sxl, sxm, Int.reduceBEq, Int.reduceBNe, Int.reduceLT, Int.reduceLE, Int.reduceEq, Int.reduceGT, Int.reduceGE, Int.reduceToNat, ↓reduceIte, List.reduceReplicate, Nat.reduceAdd, Nat.reduceSub, Nat.reduceMul, Nat.reduceLT, Nat.reduceLeDiff, Nat.reduceBEq, Nat.reduceEqDiff]
    try simp
  rintro ⟨i, al, cl⟩ H1 g1 hinv
  simp only [] at hinv
  obtain ⟨hi, hnil, rfl⟩ := hinv
  by_cases hin : i = n
  case neg =>
    have e7 : ((i : Int) < (n : Int)) = True := eq_true (by omega)
    have e2 : wr (i + 1) = ((i + 1 : Nat) : Int) := (wrap_id (by omega)).trans (by omega)
    refine ⟨?_⟩
    simp (config := { maxSteps := 4000000 }) only [↓sx0, ↓sx1, ↓sx2, ↓sx3, ↓sx4, ↓sx5, ↓sx6, sx0, sx1, sx2, sx3, sx4, sx5, sx6, tf38, ev3_hold, sxo, sxc, sxp, sxq, sxr, sxs, sxl, sxm, Int.reduceBEq, Int.reduceBNe, Int.reduceLT, Int.reduceLE, Int.reduceEq, Int.reduceGT, Int.reduceGE, Int.reduceToNat, ↓reduceIte, List.reduceReplicate, Nat.reduceAdd, Nat.reduceSub, Nat.reduceMul, Nat.reduceLT, Nat.reduceLeDiff, Nat.reduceBEq, Nat.reduceEqDiff, e7]
    intro b
    refine app_one (l := natI i) (A := knR bk s.hands.length kn1 :: B) (i : Int) (HImp.swap _ _ _ _) i1_len i1_one (by rw [natI_len]; omega) fun ad2 c2 => ?_
    rw [natI_len, ← natI_succ]
    simp (config := { maxSteps := 4000000 }) only [↓sx0, ↓sx1, ↓sx2, ↓sx3, ↓sx4, ↓sx5, ↓sx6, sx0, sx1, sx2, sx3, sx4, sx5, sx6, tf38, ev3_hold, sxo, sxc, sxp, sxq, sxr, sxs, sxl, sxm, Int.reduceBEq, Int.reduceBNe, Int.reduceLT, Int.reduceLE, Int.reduceEq, Int.reduceGT, Int.reduceGE, Int.reduceToNat, ↓reduceIte, List.reduceReplicate, Nat.reduceAdd, Nat.reduceSub, Nat.reduceMul, Nat.reduceLT, Nat.reduceLeDiff, Nat.reduceBEq, Nat.reduceEqDiff, e2]
    exact ⟨(i + 1, some ad2, c2), _, ⟨rfl, rfl⟩, HImp.swap _ _ _ _, ⟨by simp only []; omega, fun h => (by cases h), rfl⟩, by simp only []; omega⟩
  have hin' : n = i := hin.symm
  subst hin'
  have e7 : ((n : Int) < (n : Int)) = False := eq_false (by omega)
  refine ⟨?_⟩
  simp (config := { maxSteps := 4000000 }) only [↓sx0, ↓sx1, ↓sx2, ↓sx3, ↓sx4, ↓sx5, ↓sx6, sx0, sx1, sx2, sx3, sx4, sx5, sx6, tf38, ev3_hold, sxo, sxc, sxp, sxq, sxr, sxs, sxl, sxm, Int.reduceBEq, Int.reduceBNe, Int.reduceLT, Int.reduceLE, Int.reduceEq, Int.reduceGT, Int.reduceGE, Int.reduceToNat, ↓reduceIte, List.reduceReplicate, Nat.reduceAdd, Nat.reduceSub, Nat.reduceMul, Nat.reduceLT, Nat.reduceLeDiff, Nat.reduceBEq, Nat.reduceEqDiff, e7]
  refine loop_constH (knR bk s.hands.length kn1 :: .row (.slice al n cl) 3 1 (ints (natI n)) :: B) (HImp.refl _ _) [(15, 15), (17, 19), (21, 24), (56, 87)] (fun q : Nat × Option Addr × Nat => [(15, .slice q.2.1 (leftL T n q.1).length q.2.2), (56, I q.1)])
    (fun q H1 => q.1 ≤ n ∧ (q.2.1 = none → leftL T n q.1 = []) ∧ ∃ kn, KnOk s call len kn ∧ H1 = knR bk s.hands.length kn :: .row (.slice q.2.1 (leftL T n q.1).length q.2.2) 3 1 (ints (leftL T n q.1)) :: B) (fun q => n - q.1) (0, al, cl) ?_ ⟨Nat.zero_le _, fun h => List.eq_nil_of_length_eq_zero (by rw [leftL_zero, natI_len]; exact hnil h), kn1, hkn1, by rw [leftL_zero, natI_len]⟩ ?_
  · simp (config := { maxSteps := 4000000 }) only [↓sx0, ↓sx1, ↓sx2, ↓sx3, ↓sx4, ↓sx5, ↓sx6, sx0, sx1, sx2, sx3, sx4, sx5, sx6, tf38, ev3_hold, sxo, sxc, sxp, sxq, sxr, sxs, sxl, sxm, Int.reduceBEq, Int.reduceBNe, Int.reduceLT, Int.reduceLE, Int.reduceEq, Int.reduceGT, Int.reduceGE, Int.reduceToNat, ↓reduceIte, List.reduceReplicate, Nat.reduceAdd, Nat.reduceSub, Nat.reduceMul, Nat.reduceLT, Nat.reduceLeDiff, Nat.reduceBEq, Nat.reduceEqDiff]
    simp [leftL_zero, natI_len]
  rintro ⟨i, al2, cl2⟩ H2 g2 hinv2
  simp only [] at hinv2
  obtain ⟨hi2, hnil2, kn, hkn, rfl⟩ := hinv2
  have hll := leftL_len (T := T) hi2
  by_cases hin2 : i = n
  · have hin3 : n = i := hin2.symm
    subst hin3
    have hle := leftL_end T n
    refine ⟨?_⟩
    simp (config := { maxSteps := 4000000 }) only [↓sx0, ↓sx1, ↓sx2, ↓sx3, ↓sx4, ↓sx5, ↓sx6, sx0, sx1, sx2, sx3, sx4, sx5, sx6, tf38, ev3_hold, sxo, sxc, sxp, sxq, sxr, sxs, sxl, sxm, Int.reduceBEq, Int.reduceBNe, Int.reduceLT, Int.reduceLE, Int.reduceEq, Int.reduceGT, Int.reduceGE, Int.reduceToNat, ↓reduceIte, List.reduceReplicate, Nat.reduceAdd, Nat.reduceSub, Nat.reduceMul, Nat.reduceLT, Nat.reduceLeDiff, Nat.reduceBEq, Nat.reduceEqDiff, e7]
    rw [hle] at hnil2 ⊢
    exact ⟨_, rfl, Got.row rfl (List.mem_cons_of_mem _ List.mem_cons_self) hnil2⟩
  have hil : i < n := by omega
  have e8 : ((i : Int) < (n : Int)) = True := eq_true (by omega)
  have e9 : wr (i + 1) = ((i + 1 : Nat) : Int) := (wrap_id (by omega)).trans (by omega)
  have hcons := leftL_cons (T := T) hil
  obtain ⟨KL, hKL⟩ : ∃ KL, keptL T n i = KL := ⟨_, rfl⟩
  obtain ⟨RL, hRL⟩ : ∃ RL, (natI n).drop (i + 1) = RL := ⟨_, rfl⟩
  have hyes := leftL_yes (T := T) hil
  have hno := leftL_no (T := T) (n := n) (i := i)
  have hKm : ∀ y ∈ KL, decide (y = (i : Int)) = false := fun y hy => decide_eq_false (by rw [← hKL] at hy; have := keptL_mem hy; omega)
  have hRm : ∀ y ∈ RL, decide (y = (i : Int)) = false := fun y hy => decide_eq_false (by rw [← hRL] at hy; have := natI_mem hy; omega)
  rw [hKL, hRL] at hcons hyes hno
  have hcl : (KL ++ (i : Int) :: RL).length ≤ n := by rw [← hcons]; exact hll
  cases al2 with
  | none =>
    have := hnil2 rfl
    rw [hcons] at this
    simp at this
  | some adl =>
  refine ⟨?_⟩
  simp (config := { maxSteps := 4000000 }) only [↓sx0, ↓sx1, ↓sx2, ↓sx3, ↓sx4, ↓sx5, ↓sx6, sx0, sx1, sx2, sx3, sx4, sx5, sx6, tf38, ev3_hold, sxo, sxc, sxp, sxq, sxr, sxs, sxl, sxm, Int.reduceBEq, Int.reduceBNe, Int.reduceLT, Int.reduceLE, Int.reduceEq, Int.reduceGT, Int.reduceGE, Int.reduceToNat, ↓reduceIte, List.reduceReplicate, Nat.reduceAdd, Nat.reduceSub, Nat.reduceMul, Nat.reduceLT, Nat.reduceLeDiff, Nat.reduceBEq, Nat.reduceEqDiff, e8]
  intro b17
  refine wr_cell (A := []) rfl (by simp) ?_
  simp (config := { maxSteps := 4000000 }) only [↓sx0, ↓sx1, ↓sx2, ↓sx3, ↓sx4, ↓sx5, ↓sx6, sx0, sx1, sx2, sx3, sx4, sx5, sx6, tf38, ev3_hold, sxo, sxc, sxp, sxq, sxr, sxs, sxl, sxm, Int.reduceBEq, Int.reduceBNe, Int.reduceLT, Int.reduceLE, Int.reduceEq, Int.reduceGT, Int.reduceGE, Int.reduceToNat, ↓reduceIte, List.reduceReplicate, Nat.reduceAdd, Nat.reduceSub, Nat.reduceMul, Nat.reduceLT, Nat.reduceLeDiff, Nat.reduceBEq, Nat.reduceEqDiff, dn, List.take, List.drop, List.length_cons, List.length_nil, List.nil_append]
  refine CallOb.pureH (fun w' hp' => clone_fn w' _ (leftL T n i) (row_hp (E := 3) (by simp) hp') adl _ cl2 rfl (by omega)) ?_
  rintro r N3 ⟨adc, cc, rfl, hnc, rfl⟩
  cases adc with
  | none =>
    have := hnc rfl
    rw [hcons] at this
    simp at this
  | some adc =>
  refine ⟨?_⟩
  simp (config := { maxSteps := 4000000 }) only [↓sx0, ↓sx1, ↓sx2, ↓sx3, ↓sx4, ↓sx5, ↓sx6, sx0, sx1, sx2, sx3, sx4, sx5, sx6, tf38, ev3_hold, sxo, sxc, sxp, sxq, sxr, sxs, sxl, sxm, Int.reduceBEq, Int.reduceBNe, Int.reduceLT, Int.reduceLE, Int.reduceEq, Int.reduceGT, Int.reduceGE, Int.reduceToNat, ↓reduceIte, List.reduceReplicate, Nat.reduceAdd, Nat.reduceSub, Nat.reduceMul, Nat.reduceLT, Nat.reduceLeDiff, Nat.reduceBEq, Nat.reduceEqDiff, dn]
  obtain ⟨m, hm⟩ : ∃ m, (leftL T n i).length = m := ⟨_, rfl⟩
  have hmc : (KL ++ (i : Int) :: RL).length = m := by rw [← hcons]; exact hm
  have hmk : (KL ++ RL).length = m - 1 := by rw [List.length_append] at hmc ⊢; rw [List.length_cons] at hmc; omega
  have hdel := fun w' (hp : Hp ⟨w, fun _ => False⟩ ([HO.row (.slice (some adc) m cc) 3 1 (ints (leftL T n i))] ++ (HO.cells b17 3 [I i] :: knR bk s.hands.length kn :: HO.row (.slice (some adl) m cl2) 3 1 (ints (leftL T n i)) :: B)) w') => (by
    rw [hcons] at hp ⊢
    have hnd := List.pairwise_cons.1 hp.nd
    refine del_fn w' adc m cc KL RL i hmc (by omega) 72 [.pointer (some ⟨b17, 0, none⟩)] (fun y => decide (y = (i : Int))) (hp.ok _ List.mem_cons_self) ⟨Try.call72, fun w2 hk x => det_of_fn (lack1_fn w2 b17 i x ?_)⟩ hKm (decide_eq_true rfl) hRm (by decide)
    have h1 : w'.cell? ⟨b17, 0, none⟩ = some (I i) := cells_hp (T := 3) (List.mem_append_right _ List.mem_cons_self) hp
    have hnx : ¬ fpsx [HO.row (.slice (some adc) m cc) 3 1 (ints (KL ++ (i : Int) :: RL))] b17 := fun ⟨g, hg, hb⟩ => by
      rw [List.mem_singleton] at hg
      subst hg
      exact (hnd.1 _ List.mem_cons_self b17 (HO.fp_of_fpx hb) rfl).1 hb
    exact (World.cell?_of_block (w := w') (hk.block b17 (World.block_lt_of_cell? w' ⟨b17, 0, none⟩ h1) hnx)).trans h1 :
    SX.Fn Try.prog 70 [.slice (some adc) m cc, .func (.func 72) #[] #[.pointer (some ⟨b17, 0, none⟩)]] w' (fpsx [.row (.slice (some adc) m cc) 3 1 (ints (leftL T n i))]) fun r N => r = .slice (some adc) (m - 1) cc ∧ N = [.row (.slice (some adc) m cc) 3 1 (ints ((KL ++ RL) ++ [0]))])
  have hfpr : ∀ b, fps [HO.row (.slice (some adc) m cc) 3 1 (ints (leftL T n i))] b → fpsx [HO.row (.slice (some adc) m cc) 3 1 (ints (leftL T n i))] b := fun b ⟨g, hg, hb⟩ => by
    rw [List.mem_singleton] at hg
    subst hg
    exact ⟨_, List.mem_singleton_self _, by simpa [HO.fp, HO.fpx] using hb⟩
  rw [hm]
  refine CallOb.mutH (A := [HO.row (.slice (some adc) m cc) 3 1 (ints (leftL T n i))]) (HImp.refl _ _) hfpr hdel ?_
  rintro r N4 ⟨rfl, rfl⟩
  have hpk : ∀ k : Nat, (KL ++ RL)[k]? = some ((KL ++ RL).getD k 0) → True := fun _ _ => trivial
  have hmr : ∀ y ∈ KL ++ RL, 0 ≤ y ∧ y < n := fun y hy => by
    rcases List.mem_append.1 hy with h | h
    · rw [← hKL] at h
      have := keptL_mem h
      omega
    · rw [← hRL] at h
      have := natI_mem h
      omega
  have htake : (ints ((KL ++ RL) ++ [0])).take ((m - 1) * 1) = ints (KL ++ RL) := by
    have h2 : ints ((KL ++ RL) ++ [0]) = ints (KL ++ RL) ++ ints [0] := cat_append _ _ _
    rw [h2]
    exact List.take_left' (by rw [cat_len i1_len, hmk])
  generalize KL ++ RL = LS at hmk hmr htake hyes hno
  have hme : m - 1 = LS.length := hmk.symm
  rw [hme] at htake ⊢
  refine ⟨?_⟩
  simp (config := { maxSteps := 4000000 }) only [↓sx0, ↓sx1, ↓sx2, ↓sx3, ↓sx4, ↓sx5, ↓sx6, sx0, sx1, sx2, sx3, sx4, sx5, sx6, tf38, ev3_hold, sxo, sxc, sxp, sxq, sxr, sxs, sxl, sxm, Int.reduceBEq, Int.reduceBNe, Int.reduceLT, Int.reduceLE, Int.reduceEq, Int.reduceGT, Int.reduceGE, Int.reduceToNat, ↓reduceIte, List.reduceReplicate, Nat.reduceAdd, Nat.reduceSub, Nat.reduceMul, Nat.reduceLT, Nat.reduceLeDiff, Nat.reduceBEq, Nat.reduceEqDiff]
  refine loop_constH (.row (.slice none 0 0) 3 1 [] :: .row (.slice (some adc) LS.length cc) 3 1 (ints LS) :: .cells b17 3 [I i] :: knR bk s.hands.length kn :: .row (.slice (some adl) m cl2) 3 1 (ints (leftL T n i)) :: B) ((HImp.preRow _ _ adc m cc _ 1 LS.length _ (by omega)).trans (by rw [htake]; exact HImp.nilRow _ _ _ _)) [(19, 19), (21, 21), (65, 76)] (fun q : Nat × Option Addr × Nat => [(19, .slice q.2.1 q.1 q.2.2), (65, I q.1)])
    (fun q H1 => q.1 ≤ LS.length ∧ (q.2.1 = none → q.1 = 0) ∧ H1 = .row (.slice q.2.1 q.1 q.2.2) 3 1 (ints (pickS seats (LS.take q.1))) :: .row (.slice (some adc) LS.length cc) 3 1 (ints LS) :: .cells b17 3 [I i] :: knR bk s.hands.length kn :: .row (.slice (some adl) m cl2) 3 1 (ints (leftL T n i)) :: B) (fun q => LS.length - q.1) (0, none, 0) ?_ ⟨Nat.zero_le _, fun _ => rfl, rfl⟩ ?_
  · simp (config := { maxSteps := 4000000 }) only [↓sx0, ↓sx1, ↓sx2, ↓sx3, ↓sx4, ↓sx5, ↓sx6, sx0, sx1, sx2, sx3, sx4, sx5, sx6, tf38, ev3_hold, sxo, sxc, sxp, sxq, sxr, sxs, sxl, sxm, Int.reduceBEq, Int.reduceBNe, Int.reduceLT, Int.reduceLE, Int.reduceEq, Int.reduceGT, Int.reduceGE, Int.reduceToNat, ↓reduceIte, List.reduceReplicate, Nat.reduceAdd, Nat.reduceSub, Nat.reduceMul, Nat.reduceLT, Nat.reduceLeDiff, Nat.reduceBEq, Nat.reduceEqDiff]
    try simp
  rintro ⟨k, az, cs2⟩ H3 g3 hinv3
  simp only [] at hinv3
  obtain ⟨hk, hnil3, rfl⟩ := hinv3
  have hpl : (pickS seats (LS.take k)).length = k := by unfold pickS; rw [List.length_map, List.length_take]; omega
  by_cases hkn2 : k = LS.length
  case neg =>
    have e10 : ((k : Int) < (LS.length : Int)) = True := eq_true (by omega)
    have e11 : wr (k + 1) = ((k + 1 : Nat) : Int) := (wrap_id (by omega)).trans (by omega)
    have hkl : k < LS.length := by omega
    have huk := List.getElem?_eq_getElem hkl
    have hmk2 := hmr _ (List.getElem_mem hkl)
    have htk2 : LS.take (k + 1) = LS.take k ++ [LS[k]] := (List.take_append_getElem hkl).symm
    generalize LS[k] = y at huk hmk2 htk2
    obtain ⟨Y, rfl⟩ : ∃ Y : Nat, y = Y := ⟨y.toNat, by omega⟩
    have hus := getD_at (show Y < seats.length by omega) 0
    have hps2 : pickS seats (LS.take k) ++ [seats.getD Y 0] = pickS seats (LS.take (k + 1)) := by
      rw [htk2]
      unfold pickS
      rw [List.map_append]
      rfl
    refine ⟨?_⟩
    simp (config := { maxSteps := 4000000 }) only [↓sx0, ↓sx1, ↓sx2, ↓sx3, ↓sx4, ↓sx5, ↓sx6, sx0, sx1, sx2, sx3, sx4, sx5, sx6, tf38, ev3_hold, sxo, sxc, sxp, sxq, sxr, sxs, sxl, sxm, Int.reduceBEq, Int.reduceBNe, Int.reduceLT, Int.reduceLE, Int.reduceEq, Int.reduceGT, Int.reduceGE, Int.reduceToNat, ↓reduceIte, List.reduceReplicate, Nat.reduceAdd, Nat.reduceSub, Nat.reduceMul, Nat.reduceLT, Nat.reduceLeDiff, Nat.reduceBEq, Nat.reduceEqDiff, e10]
    refine amid (at_1 (row_rdv (E := 3) (List.mem_cons_of_mem _ List.mem_cons_self) ⟨_, _, _, rfl, by rw [cat_len i1_len], fun h => by cases h⟩) i1_len huk rfl fun ad1 => ?_)
    simp (config := { maxSteps := 4000000 }) only [↓sx0, ↓sx1, ↓sx2, ↓sx3, ↓sx4, ↓sx5, ↓sx6, sx0, sx1, sx2, sx3, sx4, sx5, sx6, tf38, ev3_hold, sxo, sxc, sxp, sxq, sxr, sxs, sxl, sxm, Int.reduceBEq, Int.reduceBNe, Int.reduceLT, Int.reduceLE, Int.reduceEq, Int.reduceGT, Int.reduceGE, Int.reduceToNat, ↓reduceIte, List.reduceReplicate, Nat.reduceAdd, Nat.reduceSub, Nat.reduceMul, Nat.reduceLT, Nat.reduceLeDiff, Nat.reduceBEq, Nat.reduceEqDiff]
    refine at_1 (hrs _) i1_len hus rfl fun ad2 => ?_
    simp (config := { maxSteps := 4000000 }) only [↓sx0, ↓sx1, ↓sx2, ↓sx3, ↓sx4, ↓sx5, ↓sx6, sx0, sx1, sx2, sx3, sx4, sx5, sx6, tf38, ev3_hold, sxo, sxc, sxp, sxq, sxr, sxs, sxl, sxm, Int.reduceBEq, Int.reduceBNe, Int.reduceLT, Int.reduceLE, Int.reduceEq, Int.reduceGT, Int.reduceGE, Int.reduceToNat, ↓reduceIte, List.reduceReplicate, Nat.reduceAdd, Nat.reduceSub, Nat.reduceMul, Nat.reduceLT, Nat.reduceLeDiff, Nat.reduceBEq, Nat.reduceEqDiff]
    intro b4
    refine app_one (l := pickS seats (LS.take k)) (seats.getD Y 0) (HImp.refl _ _) i1_len i1_one (by omega) fun ad3 c3 => ?_
    rw [hpl, hps2]
    simp (config := { maxSteps := 4000000 }) only [↓sx0, ↓sx1, ↓sx2, ↓sx3, ↓sx4, ↓sx5, ↓sx6, sx0, sx1, sx2, sx3, sx4, sx5, sx6, tf38, ev3_hold, sxo, sxc, sxp, sxq, sxr, sxs, sxl, sxm, Int.reduceBEq, Int.reduceBNe, Int.reduceLT, Int.reduceLE, Int.reduceEq, Int.reduceGT, Int.reduceGE, Int.reduceToNat, ↓reduceIte, List.reduceReplicate, Nat.reduceAdd, Nat.reduceSub, Nat.reduceMul, Nat.reduceLT, Nat.reduceLeDiff, Nat.reduceBEq, Nat.reduceEqDiff, e11]
    exact ⟨(k + 1, some ad3, c3), _, ⟨rfl, rfl⟩, HImp.refl _ _, ⟨by simp only []; omega, fun h => (by cases h), rfl⟩, by simp only []; omega⟩
  have e10 : ((k : Int) < (LS.length : Int)) = False := eq_false (by omega)
  rw [List.take_of_length_le (by omega)] at hpl ⊢
  have hTl := hTe LS
  have hps5 : (pickS seats LS).length ≤ 1000 := by omega
  have hmu2 := fun w' hp => mus_at (w := w') hs0 hok hc hl (hcb.mono (B' := .row (.slice az k cs2) 3 1 (ints (pickS seats LS)) :: .row (.slice (some adc) LS.length cc) 3 1 (ints LS) :: .cells b17 3 [I i] :: .row (.slice (some adl) m cl2) 3 1 (ints (leftL T n i)) :: B) (fun g hg => by simp [hg])) hkn hp (vs := .slice az k cs2) (seats := pickS seats LS) List.mem_cons_self hps5
  refine ⟨?_⟩
  simp (config := { maxSteps := 4000000 }) only [↓sx0, ↓sx1, ↓sx2, ↓sx3, ↓sx4, ↓sx5, ↓sx6, sx0, sx1, sx2, sx3, sx4, sx5, sx6, tf38, ev3_hold, sxo, sxc, sxp, sxq, sxr, sxs, sxl, sxm, Int.reduceBEq, Int.reduceBNe, Int.reduceLT, Int.reduceLE, Int.reduceEq, Int.reduceGT, Int.reduceGE, Int.reduceToNat, ↓reduceIte, List.reduceReplicate, Nat.reduceAdd, Nat.reduceSub, Nat.reduceMul, Nat.reduceLT, Nat.reduceLeDiff, Nat.reduceBEq, Nat.reduceEqDiff, e10, dn]
  refine CallOb.mutH (A := [knR bk s.hands.length kn]) (HImp.perm (List.perm_middle (l₁ := [_, _, _]))) fps_knR hmu2 ?_
  rintro r N5 ⟨kn2, hkn2', hm2, hmus2⟩
  rcases hmus2 with ⟨h5, rfl⟩ | ⟨j5, l5, x5, h5, rfl, h6⟩
  · rw [h5] at hTl
    have hlf := hno hTl
    refine ⟨?_⟩
    simp (config := { maxSteps := 4000000 }) only [↓sx0, ↓sx1, ↓sx2, ↓sx3, ↓sx4, ↓sx5, ↓sx6, sx0, sx1, sx2, sx3, sx4, sx5, sx6, tf38, ev3_hold, sxo, sxc, sxp, sxq, sxr, sxs, sxl, sxm, Int.reduceBEq, Int.reduceBNe, Int.reduceLT, Int.reduceLE, Int.reduceEq, Int.reduceGT, Int.reduceGE, Int.reduceToNat, ↓reduceIte, List.reduceReplicate, Nat.reduceAdd, Nat.reduceSub, Nat.reduceMul, Nat.reduceLT, Nat.reduceLeDiff, Nat.reduceBEq, Nat.reduceEqDiff, e9]
    exact ⟨(i + 1, some adc, cc), _, by simp only []; rw [hlf]; exact ⟨rfl, trivial⟩, (HImp.append (HImp.pick hm2)).trans (HImp.sub (.cons_cons _ (.cons _ (.cons_cons _ (.cons _ (.cons _ (List.Sublist.refl _))))))), ⟨by simp only []; omega, fun h => (by cases h), kn2, hkn2', by simp only []; rw [hlf]⟩, by simp only []; omega⟩
  · rw [h5] at hTl
    have hlf := hyes hTl
    refine ⟨?_⟩
    simp (config := { maxSteps := 4000000 }) only [↓sx0, ↓sx1, ↓sx2, ↓sx3, ↓sx4, ↓sx5, ↓sx6, sx0, sx1, sx2, sx3, sx4, sx5, sx6, tf38, ev3_hold, sxo, sxc, sxp, sxq, sxr, sxs, sxl, sxm, Int.reduceBEq, Int.reduceBNe, Int.reduceLT, Int.reduceLE, Int.reduceEq, Int.reduceGT, Int.reduceGE, Int.reduceToNat, ↓reduceIte, List.reduceReplicate, Nat.reduceAdd, Nat.reduceSub, Nat.reduceMul, Nat.reduceLT, Nat.reduceLeDiff, Nat.reduceBEq, Nat.reduceEqDiff, e9]
    exact ⟨(i + 1, some adl, cl2), _, by simp only []; rw [hlf, hm]; exact ⟨rfl, trivial⟩, (HImp.append (HImp.pick hm2)).trans (HImp.sub (.cons_cons _ (.cons _ (.cons _ (.cons _ (List.Sublist.refl _)))))), ⟨by simp only []; omega, fun h => (by cases h), kn2, hkn2', by simp only []; rw [hlf, hm]; rfl⟩, by simp only []; omega⟩

end Go.Proofs.Ytlbcgkoncnablaa

namespace Go.Proofs.Ytlbcgkoncnablaa
open Go.RowKit Go.SX
set_option maxRecDepth 10000
set_option maxHeartbeats 4000000
set_option linter.unusedSimpArgs false
set_option linter.unusedVariables false

/-! ### Crews for fewer seats, plain -/

def crewR (R : Int → Int → Prop) : List Int → List Int → Prop
  | [], [] => True
  | a :: s, x :: l => R a x ∧ x ∉ l ∧ crewR R s l
  | [], _ :: _ => False
  | _ :: _, [] => False

theorem crewR_sub {R : Int → Int → Prop} {s' s : List Int} (h : s'.Sublist s) : ∀ l, crewR R s l → ∃ l', l'.Sublist l ∧ crewR R s' l' := by
  induction h with
  | slnil =>
    intro l hl
    exact ⟨l, List.Sublist.refl _, hl⟩
  | cons a h ih =>
    intro l hl
    cases l with
    | nil => exact hl.elim
    | cons x l =>
      obtain ⟨l', h1, h2⟩ := ih l hl.2.2
      exact ⟨l', h1.cons _, h2⟩
  | cons_cons a h ih =>
    intro l hl
    cases l with
    | nil => exact hl.elim
    | cons x l =>
      obtain ⟨l', h1, h2⟩ := ih l hl.2.2
      exact ⟨x :: l', h1.cons_cons _, hl.1, fun hm => hl.2.1 (h1.subset hm), h2⟩

theorem crewR_of {R : Int → Int → Prop} : ∀ (s l : List Int), l.length = s.length → (∀ p x, l[p]? = some x → R (s.getD p 0) x ∧ x ∉ l.take p) → crewR R s l
  | [], [], _, _ => trivial
  | [], _ :: _, h, _ => by simp at h
  | _ :: _, [], h, _ => by simp at h
  | a :: s, x :: l, h, H => by
    refine ⟨(H 0 x rfl).1, fun hm => ?_, crewR_of s l (by simpa using h) fun p y hp => ?_⟩
    · obtain ⟨q, hq⟩ := List.getElem?_of_mem hm
      exact (H (q + 1) x (by simpa using hq)).2 (by simp)
    · have := H (p + 1) y (by simpa using hp)
      refine ⟨by simpa using this.1, fun hm => this.2 ?_⟩
      rw [List.take_succ_cons]
      exact List.mem_cons_of_mem _ hm

theorem crewR_to {R : Int → Int → Prop} : ∀ (s l : List Int), crewR R s l → l.length = s.length ∧ ∀ p x, l[p]? = some x → R (s.getD p 0) x ∧ x ∉ l.take p
  | [], [], _ => ⟨rfl, fun p x h => by simp at h⟩
  | [], _ :: _, h => h.elim
  | _ :: _, [], h => h.elim
  | a :: s, x :: l, h => by
    obtain ⟨h1, h2⟩ := crewR_to s l h.2.2
    refine ⟨by simpa using h1, fun p y hp => ?_⟩
    cases p with
    | zero =>
      simp only [List.getElem?_cons_zero, Option.some.injEq] at hp
      subst hp
      exact ⟨h.1, by simp⟩
    | succ p =>
      rw [List.getElem?_cons_succ] at hp
      have := h2 p y hp
      refine ⟨by simpa using this.1, fun hm => ?_⟩
      rw [List.take_succ_cons] at hm
      rcases List.mem_cons.1 hm with e | hm
      · subst e
        exact h.2.1 (List.mem_of_getElem? hp)
      · exact this.2 hm

noncomputable def sitR (s : Stn) (call len : Int) (j : Nat) (seat x : Int) : Prop := ∃ i : Nat, x = (i : Int) ∧ i < s.hands.length ∧ ((atL s call len (call + (j : Int))).getD i false && hasB ((s.hands.map (·.skills)).getD i 0) seat) = true

theorem crew_R {s : Stn} {call len : Int} {seats : List Int} {j : Nat} {l : List Int} : crewP s call len seats j l ↔ crewR (sitR s call len j) seats l := by
  constructor
  · rintro ⟨h1, h2⟩
    refine crewR_of _ _ h1 fun p x hp => ?_
    obtain ⟨i, h3, h4, h5, h6⟩ := h2 p (Nat.zero_le _) (List.getElem?_eq_some_iff.1 hp).1
    rw [hp] at h3
    cases h3
    exact ⟨⟨i, rfl, h4, h5⟩, h6⟩
  · intro h
    obtain ⟨h1, h2⟩ := crewR_to _ _ h
    refine ⟨h1, fun p _ hp => ?_⟩
    obtain ⟨⟨i, h3, h4, h5⟩, h6⟩ := h2 p _ (List.getElem?_eq_getElem hp)
    rw [h3] at h6
    exact ⟨i, by rw [List.getElem?_eq_getElem hp, h3], h4, h5, h6⟩

theorem mus_mono {s : Stn} {call len : Int} {seats seats' : List Int} (h : seats'.Sublist seats) (hs : (musG s call len seats).isSome = true) : (musG s call len seats').isSome = true := by
  cases hm : musG s call len seats with
  | none => rw [hm] at hs; cases hs
  | some q =>
    obtain ⟨j, l⟩ := q
    obtain ⟨h1, h2, _⟩ := musG_some hm
    obtain ⟨l', _, h3⟩ := crewR_sub h l (crew_R.1 h2)
    obtain ⟨j', l2, h4, _⟩ := musG_isSome h1 (crew_R.2 h3)
    rw [h4]
    rfl

theorem crewT_mono {s : Stn} {call len : Int} {seats l l' : List Int} (h : l'.Sublist l) (hs : crewT s call len seats l = true) : crewT s call len seats l' = true := mus_mono (h.map _) hs

theorem pick_all (seats : List Int) : pickS seats (natI seats.length) = seats := by
  unfold pickS natI
  rw [List.map_map]
  refine List.ext_getElem? fun i => ?_
  rw [List.getElem?_map]
  by_cases h : i < seats.length
  · rw [List.getElem?_range h, getD_at h 0]
    rfl
  · rw [List.getElem?_eq_none (by rw [List.length_range]; omega), List.getElem?_eq_none (by omega)]
    rfl

/-- Where an element of those kept was kept. -/
theorem kept_at {T : List Int → Bool} {n : Nat} : ∀ {m b : Nat}, m ≤ n → b < (keptL T n m).length → ∃ i : Nat, i < m ∧ T (keptL T n i ++ (natI n).drop (i + 1)) = true ∧ (keptL T n m).take b = keptL T n i ∧ ((keptL T n m).drop (b + 1)).Sublist (((natI n).take m).drop (i + 1))
  | 0, b, _, h => by simp [keptL] at h
  | m + 1, b, hm, h => by
    have htk : (natI n).take (m + 1) = (natI n).take m ++ [(m : Int)] := take_next (natI_get (by omega))
    have hlm : ((natI n).take m).length = m := by rw [List.length_take, natI_len]; omega
    rw [keptL] at h ⊢
    split at h
    · rename_i hT
      rw [if_pos hT]
      by_cases hb : b < (keptL T n m).length
      · obtain ⟨i, h1, h2, h3, h4⟩ := kept_at (T := T) (n := n) (m := m) (b := b) (by omega) hb
        refine ⟨i, by omega, h2, by rw [List.take_append_of_le_length (by omega)]; exact h3, ?_⟩
        rw [List.drop_append_of_le_length (by omega), htk, List.drop_append_of_le_length (by omega)]
        exact h4.append (List.Sublist.refl _)
      · have hbe : b = (keptL T n m).length := by rw [List.length_append, List.length_singleton] at h; omega
        subst hbe
        refine ⟨m, by omega, hT, List.take_left' rfl, ?_⟩
        rw [List.drop_of_length_le (by rw [List.length_append, List.length_singleton]; omega)]
        exact List.nil_sublist _
    · rename_i hT
      rw [if_neg hT]
      obtain ⟨i, h1, h2, h3, h4⟩ := kept_at (T := T) (n := n) (m := m) (b := b) (by omega) h
      refine ⟨i, by omega, h2, h3, ?_⟩
      rw [htk, List.drop_append_of_le_length (by omega)]
      exact h4.trans (List.sublist_append_left _ _)

theorem kept_false {T : List Int → Bool} {n : Nat} (h : T (natI n) = false) : ∀ m, m ≤ n → T (leftL T n m) = false
  | 0, _ => h
  | m + 1, hm => by
    cases ht : T (keptL T n m ++ (natI n).drop (m + 1)) with
    | true => rw [leftL_yes (by omega) ht]; exact kept_false h m (by omega)
    | false => rw [leftL_no ht]; exact ht

theorem kept_sorted {T : List Int → Bool} {n : Nat} : ∀ m, (keptL T n m).Pairwise (· < ·)
  | 0 => List.Pairwise.nil
  | m + 1 => by
    rw [keptL]
    split
    · refine List.pairwise_append.2 ⟨kept_sorted m, List.pairwise_singleton _ _, fun x hx y hy => ?_⟩
      rw [List.mem_singleton] at hy
      have := keptL_mem hx
      omega
    · exact kept_sorted m

/-- What Lacking says: no crew for all of them, one without any. -/
theorem lack_law {s : Stn} {call : Int} {seats : List Int} {len : Int} (he : callE s call seats len = 0) (h0 : lackE s call seats len = 0) :
    (musG s call len (pickS seats (lackL s call seats len))).isSome = false ∧ (∀ b, b < (lackL s call seats len).length → (musG s call len (pickS seats ((lackL s call seats len).take b ++ (lackL s call seats len).drop (b + 1)))).isSome = true) ∧
    (∀ y ∈ lackL s call seats len, 0 ≤ y ∧ y < seats.length) ∧ (lackL s call seats len).Pairwise (· < ·) := by
  have hn : (musG s call len seats).isSome = false := by
    unfold lackE at h0
    rw [if_pos he] at h0
    split at h0
    · cases h0
    · rename_i h
      exact Bool.eq_false_iff.2 h
  have hT : crewT s call len seats (natI seats.length) = false := by
    unfold crewT
    rw [pick_all]
    exact hn
  unfold lackL
  rw [if_pos h0]
  refine ⟨?_, fun b hb => ?_, fun y hy => keptL_mem hy, kept_sorted _⟩
  · have := kept_false hT seats.length (Nat.le_refl _)
    rw [leftL_end] at this
    exact this
  · obtain ⟨i, h1, h2, h3, h4⟩ := kept_at (T := crewT s call len seats) (Nat.le_refl _) hb
    rw [h3]
    refine crewT_mono (List.Sublist.append (List.Sublist.refl _) ?_) h2
    rwa [List.take_of_length_le (by rw [natI_len]; exact Nat.le_refl _)] at h4

/-- The list but for one place. -/
def skipL (l : List Int) (b : Int) : Nat → List Int
  | 0 => []
  | i + 1 => if (i : Int) = b then skipL l b i else skipL l b i ++ [l.getD i 0]
theorem skipL_len (l : List Int) (b : Int) : ∀ i, (skipL l b i).length ≤ i
  | 0 => Nat.le_refl _
  | i + 1 => by
    have := skipL_len l b i
    rw [skipL]
    split
    · omega
    · rw [List.length_append, List.length_singleton]; omega
theorem skipL_neg (l : List Int) {b : Int} (hb : b < 0) : ∀ i, i ≤ l.length → skipL l b i = l.take i
  | 0, _ => rfl
  | i + 1, h => by
    rw [skipL, if_neg (by omega), skipL_neg l hb i (by omega), take_next (getD_at (by omega) 0)]
theorem skipL_at (l : List Int) (b : Nat) : ∀ i, i ≤ l.length → skipL l b i = l.take (min b i) ++ ((l.take i).drop (b + 1))
  | 0, _ => by simp [skipL]
  | i + 1, h => by
    have htk := take_next (getD_at (show i < l.length by omega) 0)
    have hli : (l.take i).length = i := by rw [List.length_take]; omega
    rw [skipL, skipL_at l b i (by omega)]
    by_cases h1 : i = b
    · subst h1
      rw [if_pos rfl, Nat.min_self, Nat.min_eq_left (by omega), List.drop_of_length_le (by omega), List.drop_of_length_le (by rw [List.length_take]; omega)]
    · rw [if_neg (by omega)]
      by_cases h2 : i < b
      · rw [Nat.min_eq_right (by omega), Nat.min_eq_right (by omega), List.drop_of_length_le (by omega), List.drop_of_length_le (by rw [List.length_take]; omega), htk, List.append_nil, List.append_nil]
      · rw [Nat.min_eq_left (by omega), Nat.min_eq_left (by omega), htk, List.drop_append_of_le_length (by omega), List.append_assoc]
theorem skipL_all (l : List Int) (b : Nat) (hb : b < l.length) : skipL l b l.length = l.take b ++ l.drop (b + 1) := by
  rw [skipL_at l b _ (Nat.le_refl _), Nat.min_eq_left (by omega), List.take_of_length_le (Nat.le_refl _)]

theorem callE_of {s : Stn} {call : Int} {seats l : List Int} {len : Int} (he : callE s call seats len = 0) (hl : l.length ≤ 5) (hm : ∀ x ∈ l, x ∈ seats) : callE s call l len = 0 := by
  obtain ⟨h1, h2, h3, h4, h5⟩ := callE_zero he
  unfold callE
  rw [if_pos h1, if_pos (by rw [Bool.and_eq_true, inB_iff, inB_iff]; exact ⟨h2, h3⟩)]
  unfold seatE
  rw [if_neg (by omega), if_neg]
  rw [Bool.not_eq_true, List.any_eq_false]
  intro x hx
  rw [Bool.not_eq_true, Bool.not_eq_false', inB_iff]
  exact h5 x (hm x hx)

theorem musE_is {s : Stn} {call : Int} {seats : List Int} {len : Int} (he : callE s call seats len = 0) : musE s call seats len = if (musG s call len seats).isSome = true then 0 else 3 := by
  unfold musE
  rw [if_pos he]
  cases musG s call len seats <;> rfl

theorem pick_mem {seats l : List Int} (h : ∀ y ∈ l, 0 ≤ y ∧ y < seats.length) : ∀ x ∈ pickS seats l, x ∈ seats := by
  intro x hx
  unfold pickS at hx
  obtain ⟨y, hy, rfl⟩ := List.mem_map.1 hx
  have := h y hy
  exact List.mem_of_getElem? (getD_at (by omega) 0)

theorem skipL_mem (l : List Int) (b : Int) : ∀ i, i ≤ l.length → ∀ y ∈ skipL l b i, y ∈ l
  | 0, _, y, h => by cases h
  | i + 1, hi, y, h => by
    rw [skipL] at h
    split at h
    · exact skipL_mem l b i (by omega) y h
    · rcases List.mem_append.1 h with h | h
      · exact skipL_mem l b i (by omega) y h
      · rw [List.mem_singleton] at h
        subst h
        exact List.mem_of_getElem? (getD_at (by omega) 0)

end Go.Proofs.Ytlbcgkoncnablaa

