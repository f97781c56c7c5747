/- Parts of a proof: the symbolic walk and what it shows of single functions. -/
import Derived.Test.YtpmodggfogahhaaGreatDoorC2
set_option linter.all false
namespace Go.Proofs.YtpmodggfogahhaaGreatDoor
open Go.RowKit Go.SX
set_option maxRecDepth 4000
set_option maxHeartbeats 8000000
set_option linter.unusedSimpArgs false
set_option linter.unusedVariables false
def Cht.few (c : Cht) : Prop := c.depth.length ≤ 146 ∧ c.tide.length ≤ 62 ∧ c.swell.length ≤ 62
theorem few_small {c : Cht} (h : c.few) : c.small := by
  unfold Cht.few at h
  unfold Cht.small
  omega
theorem vast_fn (w : World) (v : Value) (c : Cht) (hc : ChOk w v c) : SX.Fn Tryz.prog 27 [v] w (fun _ => False) fun r N => ∃ b, r = .bool b ∧ (b = false → c.few ∧ (c.ok → c.depth.length ≤ 40 ∧ c.tide.length ≤ 16)) := by
  have hc0 := hc
  have hD := detM_ok (X := fun _ => False) hc (fun _ _ => id)
  have hck : c.small → _ := fun h => (detM_check (v := v) (c := c) h).2
  obtain ⟨sD, sT, sS, rfl, hsD, hsT, hsS⟩ := hc
  obtain ⟨aD, nD, cD, rfl⟩ := hsD.shape
  obtain ⟨aT, nT, cT, rfl⟩ := hsT.shape
  obtain ⟨aS, nS, cS, rfl⟩ := hsS.shape
  have hnD := hsD.le i1_len (by omega)
  have hnT := hsT.le spc_len (by omega)
  have hnS := hsS.le i1_len (by omega)
  subst hnD hnT hnS
  refine walk [] [] hD Tryz.func27 rfl Tryz.ntmps27 res27 (by kernel_rfl) no_facts ?_
  by_cases h1 : (c.depth.length : Int) > 146
  · have e1 : ((c.depth.length : Int) > 146) = True := eq_true h1
    simp (config := { maxSteps := 4000000 }) only [↓sx0, ↓sx1, ↓sx2, ↓sx3, ↓sx4, ↓sx5, ↓sx6, sx0, sx1, sx2, sx3, sx4, sx5, sx6, tf27, ev3_hold, sxo, sxc, sxp, sxq, sxr, sxs, sxl, sxm, simprocAttr, e1]
    exact ⟨true, rfl, fun h => by cases h⟩
  have e1 : ((c.depth.length : Int) > 146) = False := eq_false h1
  by_cases h2 : (c.tide.length : Int) > 62
  · have e2 : ((c.tide.length : Int) > 62) = True := eq_true h2
    simp (config := { maxSteps := 4000000 }) only [↓sx0, ↓sx1, ↓sx2, ↓sx3, ↓sx4, ↓sx5, ↓sx6, sx0, sx1, sx2, sx3, sx4, sx5, sx6, tf27, ev3_hold, sxo, sxc, sxp, sxq, sxr, sxs, sxl, sxm, simprocAttr, e1, e2]
    exact ⟨true, rfl, fun h => by cases h⟩
  have e2 : ((c.tide.length : Int) > 62) = False := eq_false h2
  by_cases h3 : (c.swell.length : Int) > 62
  · have e3 : ((c.swell.length : Int) > 62) = True := eq_true h3
    simp (config := { maxSteps := 4000000 }) only [↓sx0, ↓sx1, ↓sx2, ↓sx3, ↓sx4, ↓sx5, ↓sx6, sx0, sx1, sx2, sx3, sx4, sx5, sx6, tf27, ev3_hold, sxo, sxc, sxp, sxq, sxr, sxs, sxl, sxm, simprocAttr, e1, e2, e3]
    exact ⟨true, rfl, fun h => by cases h⟩
  have e3 : ((c.swell.length : Int) > 62) = False := eq_false h3
  have hf : c.few := ⟨by omega, by omega, by omega⟩
  have hck' := hck (few_small hf)
  cases hok : c.okB with
  | false =>
    rw [hok] at hck'
    simp (config := { maxSteps := 4000000 }) only [↓sx0, ↓sx1, ↓sx2, ↓sx3, ↓sx4, ↓sx5, ↓sx6, sx0, sx1, sx2, sx3, sx4, sx5, sx6, tf27, ev3_hold, sxo, sxc, sxp, sxq, sxr, sxs, sxl, sxm, simprocAttr, e1, e2, e3, hck']
    exact ⟨false, rfl, fun _ => ⟨hf, fun h => by rw [(okB_iff c).2 h] at hok; cases hok⟩⟩
  | true =>
    rw [hok] at hck'
    have hok' := (okB_iff c).1 hok
    have e4 : c.wide * c.high = (c.depth.length : Int) := hok'.2.2.1.symm
    have e5 : wr (c.depth.length : Int) = (c.depth.length : Int) := wrap_id (by omega)
    by_cases h6 : (c.depth.length : Int) > 40
    · have e6 : ((c.depth.length : Int) > 40) = True := eq_true h6
      simp (config := { maxSteps := 4000000 }) only [↓sx0, ↓sx1, ↓sx2, ↓sx3, ↓sx4, ↓sx5, ↓sx6, sx0, sx1, sx2, sx3, sx4, sx5, sx6, tf27, ev3_hold, sxo, sxc, sxp, sxq, sxr, sxs, sxl, sxm, simprocAttr, e1, e2, e3, hck', e4, e5, e6]
      exact ⟨true, rfl, fun h => by cases h⟩
    · have e6 : ((c.depth.length : Int) > 40) = False := eq_false h6
      simp (config := { maxSteps := 4000000 }) only [↓sx0, ↓sx1, ↓sx2, ↓sx3, ↓sx4, ↓sx5, ↓sx6, sx0, sx1, sx2, sx3, sx4, sx5, sx6, tf27, ev3_hold, sxo, sxc, sxp, sxq, sxr, sxs, sxl, sxm, simprocAttr, e1, e2, e3, hck', e4, e5, e6]
      refine ⟨_, rfl, fun h => ⟨hf, fun _ => ?_⟩⟩
      simp only [decide_eq_false_iff_not] at h
      omega
end Go.Proofs.YtpmodggfogahhaaGreatDoor

