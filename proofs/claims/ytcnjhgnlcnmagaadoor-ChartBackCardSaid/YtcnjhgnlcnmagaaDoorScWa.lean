/- A part of a proof: the symbolic walk and what it shows of single functions. -/
import Derived.Test.YtcnjhgnlcnmagaaDoorC4
set_option linter.all false
namespace Go.Proofs.YtcnjhgnlcnmagaaDoor
open Go.RowKit Go.SX
set_option maxRecDepth 20000
set_option maxHeartbeats 8000000
set_option linter.unusedSimpArgs false
set_option linter.unusedVariables false

/-! ### Windows of every chart, both texts -/

noncomputable def winOk (c : Cht) (r : Rmp) : Bool := c.okB && rampB c r
noncomputable def winE (c : Cht) (r : Rmp) : Int := if winOk c r then 0 else if c.okB then 11 else 10
noncomputable def winS (c : Cht) (r : Rmp) : List (Int × Int) := if winOk c r then winL (sureT c r) c.tide.length else []
noncomputable def winM (c : Cht) (r : Rmp) : List (Int × Int) := if winOk c r then winL (mayT c r) c.tide.length else []

def winPost (c : Cht) (r : Rmp) (q : Value) (N : List HO) : Prop := ∃ x y, q = .tuple #[x, y, I (winE c r)] ∧ Got x 37 2 spc (winS c r) N ∧ Got y 37 2 spc (winM c r) N

theorem winOk_iff (c : Cht) (r : Rmp) : winOk c r = true ↔ c.ok ∧ rampB c r = true := by
  unfold winOk
  rw [Bool.and_eq_true, okB_iff]

theorem win_post (c : Cht) (r : Rmp) (h : c.ok ∧ rampB c r = true) (q : Value) (N : List HO) (hq : ∃ x y, q = .tuple #[x, y, I 0] ∧ Got x 37 2 spc (winL (sureT c r) c.tide.length) N ∧ Got y 37 2 spc (winL (mayT c r) c.tide.length) N) : winPost c r q N := by
  have := (winOk_iff c r).2 h
  unfold winPost winE winS winM
  rw [this]
  exact hq

theorem win_bad (c : Cht) (r : Rmp) (h : ¬ (c.ok ∧ rampB c r = true)) (q : Value) (N : List HO) (hq : q = nil2 (if c.okB then 11 else 10)) : winPost c r q N := by
  have : winOk c r = false := by
    cases hb : winOk c r with
    | false => rfl
    | true => exact absurd ((winOk_iff c r).1 hb) h
  unfold winPost winE winS winM
  rw [this]
  exact ⟨_, _, hq, Got.nil _, Got.nil _⟩

theorem win_fn (w : World) (v : Value) (c : Cht) (r : Rmp) (hc : ChOk w v c) (hsm : c.small) : SX.Fn Tryd.prog 16 [v, rmv r] w (fun _ => False) (winPost c r) := by
  by_cases h : c.ok ∧ rampB c r = true
  · exact (windows_fn w v c r hc h.1 h.2 hsm).mono (win_post c r h)
  · exact (windows_bad w v c r hc hsm h).mono (win_bad c r h)

theorem rwin_fn (w : World) (hw : Ways w) (v : Value) (c : Cht) (r : Rmp) (hc : ChOk w v c) (hsm : c.small) : SX.Fn Tryd.prog 18 [v, rmv r] w (fun _ => False) (winPost c r) := by
  by_cases h : c.ok ∧ rampB c r = true
  · exact (rwindows_fn w hw v c r hc h.1 h.2 hsm).mono (win_post c r h)
  · exact (rwindows_bad w hw v c r hc hsm h).mono (win_bad c r h)

theorem got_ch {N : List HO} {c : Cht} {x y z : Value} (hx : Got x 3 1 i1 c.depth N) (hy : Got y 37 2 spc c.tide N) (hz : Got z 3 1 i1 c.swell N) {H : List HO} {w0 : Base} {w : World} (hm : ∀ h ∈ N, h ∈ H) (hp : Hp w0 H w) : ChOk w (.agg #[I c.wide, I c.high, x, y, z]) c :=
  ⟨_, _, _, rfl, hx.hp hm hp, hy.hp hm hp, hz.hp hm hp⟩

theorem winS_len (c : Cht) (r : Rmp) (h : c.few) : (winS c r).length ≤ 62 := by
  unfold winS
  have h2 := h.2.1
  split
  · exact Nat.le_trans (winL_len _ _) h2
  · simp
theorem winM_len (c : Cht) (r : Rmp) (h : c.few) : (winM c r).length ≤ 62 := by
  unfold winM
  have h2 := h.2.1
  split
  · exact Nat.le_trans (winL_len _ _) h2
  · simp

theorem chartWindows_fn (w : World) (hw : Ways w) (v : Value) (c : Cht) (hc : ChOk w v c) (r : Rmp) : SX.Fn Tryd.prog 3 [v, rmv r] w (fun _ => False) fun r N => r = .bool true := by
  have hc0 := hc
  obtain ⟨sD, sT, sS, rfl, hsD, hsT, hsS⟩ := hc
  obtain ⟨aD, nD, cD, rfl⟩ := hsD.shape
  obtain ⟨aT, nT, cT, rfl⟩ := hsT.shape
  obtain ⟨aS, nS, cS, rfl⟩ := hsS.shape
  unfold rmv
  refine walk [] [(3, (ones [0, 2, 1, 3, 4, 5, 6, 7, 8, 9, 10] .fin))] (det0_ok _ _) Tryd.func3 rfl Tryd.ntmps3 res3 (by kernel_rfl) no_facts ?_
  simp (config := { maxSteps := 4000000 }) only [↓sx0, ↓sx1, ↓sx2, ↓sx3, ↓sx4, ↓sx5, ↓sx6, sx0, sx1, sx2, sx3, sx4, sx5, sx6, tf3, ev3_hold, sxo, sxc, sxp, sxq, sxr, sxs, sxl, sxm, Int.reduceBEq, Int.reduceBNe, Int.reduceLT, Int.reduceLE, Int.reduceEq, Int.reduceGT, Int.reduceGE, Int.reduceToNat, ↓reduceIte, List.reduceReplicate, Nat.reduceAdd, Nat.reduceSub, Nat.reduceMul, Nat.reduceLT, Nat.reduceLeDiff, Nat.reduceBEq, Nat.reduceEqDiff, det0]
  refine CallOb.pureH (fun w' hp => vast_fn w' _ c (hc0.hp hp)) ?_
  rintro r0 N0 ⟨b, rfl, hb⟩
  refine ⟨?_⟩
  cases b with
  | true =>
    simp (config := { maxSteps := 4000000 }) only [↓sx0, ↓sx1, ↓sx2, ↓sx3, ↓sx4, ↓sx5, ↓sx6, sx0, sx1, sx2, sx3, sx4, sx5, sx6, tf3, ev3_hold, sxo, sxc, sxp, sxq, sxr, sxs, sxl, sxm, Int.reduceBEq, Int.reduceBNe, Int.reduceLT, Int.reduceLE, Int.reduceEq, Int.reduceGT, Int.reduceGE, Int.reduceToNat, ↓reduceIte, List.reduceReplicate, Nat.reduceAdd, Nat.reduceSub, Nat.reduceMul, Nat.reduceLT, Nat.reduceLeDiff, Nat.reduceBEq, Nat.reduceEqDiff, det0]
    refine CallOb.pureH (fun w' hp => works_fn w' (hw.hp hp)) ?_
    rintro r1 N1 rfl
    refine ⟨?_⟩
    simp (config := { maxSteps := 4000000 }) only [↓sx0, ↓sx1, ↓sx2, ↓sx3, ↓sx4, ↓sx5, ↓sx6, sx0, sx1, sx2, sx3, sx4, sx5, sx6, tf3, ev3_hold, sxo, sxc, sxp, sxq, sxr, sxs, sxl, sxm, Int.reduceBEq, Int.reduceBNe, Int.reduceLT, Int.reduceLE, Int.reduceEq, Int.reduceGT, Int.reduceGE, Int.reduceToNat, ↓reduceIte, List.reduceReplicate, Nat.reduceAdd, Nat.reduceSub, Nat.reduceMul, Nat.reduceLT, Nat.reduceLeDiff, Nat.reduceBEq, Nat.reduceEqDiff]
  | false =>
  have hf := (hb rfl).1
  have hsm := few_small hf
  have l1 := winS_len c r hf
  have l2 := winM_len c r hf
  simp (config := { maxSteps := 4000000 }) only [↓sx0, ↓sx1, ↓sx2, ↓sx3, ↓sx4, ↓sx5, ↓sx6, sx0, sx1, sx2, sx3, sx4, sx5, sx6, tf3, ev3_hold, sxo, sxc, sxp, sxq, sxr, sxs, sxl, sxm, Int.reduceBEq, Int.reduceBNe, Int.reduceLT, Int.reduceLE, Int.reduceEq, Int.reduceGT, Int.reduceGE, Int.reduceToNat, ↓reduceIte, List.reduceReplicate, Nat.reduceAdd, Nat.reduceSub, Nat.reduceMul, Nat.reduceLT, Nat.reduceLeDiff, Nat.reduceBEq, Nat.reduceEqDiff, det0]
  refine CallOb.pureH (fun w' hp => copy_fn w' _ c (hc0.hp hp) hf) ?_
  rintro r1 N1 ⟨x1, y1, z1, rfl, gx, gy, gz⟩
  refine ⟨?_⟩
  simp (config := { maxSteps := 4000000 }) only [↓sx0, ↓sx1, ↓sx2, ↓sx3, ↓sx4, ↓sx5, ↓sx6, sx0, sx1, sx2, sx3, sx4, sx5, sx6, tf3, ev3_hold, sxo, sxc, sxp, sxq, sxr, sxs, sxl, sxm, Int.reduceBEq, Int.reduceBNe, Int.reduceLT, Int.reduceLE, Int.reduceEq, Int.reduceGT, Int.reduceGE, Int.reduceToNat, ↓reduceIte, List.reduceReplicate, Nat.reduceAdd, Nat.reduceSub, Nat.reduceMul, Nat.reduceLT, Nat.reduceLeDiff, Nat.reduceBEq, Nat.reduceEqDiff, det0]
  refine CallOb.pureH (fun w' hp => win_fn w' _ c r (got_ch gx gy gz (fun h hh => by simp [hh]) hp) hsm) ?_
  rintro r2 N2 ⟨x2, y2, rfl, gx2, gy2⟩
  refine ⟨?_⟩
  simp (config := { maxSteps := 4000000 }) only [↓sx0, ↓sx1, ↓sx2, ↓sx3, ↓sx4, ↓sx5, ↓sx6, sx0, sx1, sx2, sx3, sx4, sx5, sx6, tf3, ev3_hold, sxo, sxc, sxp, sxq, sxr, sxs, sxl, sxm, Int.reduceBEq, Int.reduceBNe, Int.reduceLT, Int.reduceLE, Int.reduceEq, Int.reduceGT, Int.reduceGE, Int.reduceToNat, ↓reduceIte, List.reduceReplicate, Nat.reduceAdd, Nat.reduceSub, Nat.reduceMul, Nat.reduceLT, Nat.reduceLeDiff, Nat.reduceBEq, Nat.reduceEqDiff, det0]
  refine CallOb.pureH (fun w' hp => rwin_fn w' (hw.hp hp) _ c r (hc0.hp hp) hsm) ?_
  rintro r3 N3 ⟨x3, y3, rfl, gx3, gy3⟩
  refine ⟨?_⟩
  simp (config := { maxSteps := 4000000 }) only [↓sx0, ↓sx1, ↓sx2, ↓sx3, ↓sx4, ↓sx5, ↓sx6, sx0, sx1, sx2, sx3, sx4, sx5, sx6, tf3, ev3_hold, sxo, sxc, sxp, sxq, sxr, sxs, sxl, sxm, Int.reduceBEq, Int.reduceBNe, Int.reduceLT, Int.reduceLE, Int.reduceEq, Int.reduceGT, Int.reduceGE, Int.reduceToNat, ↓reduceIte, List.reduceReplicate, Nat.reduceAdd, Nat.reduceSub, Nat.reduceMul, Nat.reduceLT, Nat.reduceLeDiff, Nat.reduceBEq, Nat.reduceEqDiff, det0]
  refine CallOb.pureH (fun w' hp => sameS_fn w' _ _ _ _ (gx2.hp (fun h hh => by simp [hh]) hp) (gx3.hp (fun h hh => by simp [hh]) hp) (by omega)) ?_
  rintro r4 N4 rfl
  refine ⟨?_⟩
  rw [decide_eq_true rfl]
  simp (config := { maxSteps := 4000000 }) only [↓sx0, ↓sx1, ↓sx2, ↓sx3, ↓sx4, ↓sx5, ↓sx6, sx0, sx1, sx2, sx3, sx4, sx5, sx6, tf3, ev3_hold, sxo, sxc, sxp, sxq, sxr, sxs, sxl, sxm, Int.reduceBEq, Int.reduceBNe, Int.reduceLT, Int.reduceLE, Int.reduceEq, Int.reduceGT, Int.reduceGE, Int.reduceToNat, ↓reduceIte, List.reduceReplicate, Nat.reduceAdd, Nat.reduceSub, Nat.reduceMul, Nat.reduceLT, Nat.reduceLeDiff, Nat.reduceBEq, Nat.reduceEqDiff, det0]
  refine CallOb.pureH (fun w' hp => sameS_fn w' _ _ _ _ (gy2.hp (fun h hh => by simp [hh]) hp) (gy3.hp (fun h hh => by simp [hh]) hp) (by omega)) ?_
  rintro r5 N5 rfl
  refine ⟨?_⟩
  rw [decide_eq_true rfl]
  simp (config := { maxSteps := 4000000 }) only [↓sx0, ↓sx1, ↓sx2, ↓sx3, ↓sx4, ↓sx5, ↓sx6, sx0, sx1, sx2, sx3, sx4, sx5, sx6, tf3, ev3_hold, sxo, sxc, sxp, sxq, sxr, sxs, sxl, sxm, Int.reduceBEq, Int.reduceBNe, Int.reduceLT, Int.reduceLE, Int.reduceEq, Int.reduceGT, Int.reduceGE, Int.reduceToNat, ↓reduceIte, List.reduceReplicate, Nat.reduceAdd, Nat.reduceSub, Nat.reduceMul, Nat.reduceLT, Nat.reduceLeDiff, Nat.reduceBEq, Nat.reduceEqDiff, det0]
  refine CallOb.pureH (fun w' hp => works_fn w' (hw.hp hp)) ?_
  rintro r6 N6 rfl
  refine ⟨?_⟩
  simp (config := { maxSteps := 4000000 }) only [↓sx0, ↓sx1, ↓sx2, ↓sx3, ↓sx4, ↓sx5, ↓sx6, sx0, sx1, sx2, sx3, sx4, sx5, sx6, tf3, ev3_hold, sxo, sxc, sxp, sxq, sxr, sxs, sxl, sxm, Int.reduceBEq, Int.reduceBNe, Int.reduceLT, Int.reduceLE, Int.reduceEq, Int.reduceGT, Int.reduceGE, Int.reduceToNat, ↓reduceIte, List.reduceReplicate, Nat.reduceAdd, Nat.reduceSub, Nat.reduceMul, Nat.reduceLT, Nat.reduceLeDiff, Nat.reduceBEq, Nat.reduceEqDiff]

end Go.Proofs.YtcnjhgnlcnmagaaDoor
