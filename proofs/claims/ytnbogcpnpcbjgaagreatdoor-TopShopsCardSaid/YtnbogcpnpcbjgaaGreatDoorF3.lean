/- Parts of a proof: the symbolic walk and what it shows of single functions. -/
import Derived.Test.YtnbogcpnpcbjgaaGreatDoorF2
set_option linter.all false
namespace Go.Proofs.YtnbogcpnpcbjgaaGreatDoor
open Go.RowKit Go.SX
set_option maxRecDepth 10000
set_option maxHeartbeats 0
set_option linter.unusedSimpArgs false
set_option linter.unusedVariables false
noncomputable def detU (v : Value) (c : Cht) : Nat → List Value → Option Value
  | 150, [.agg ⟨[.int .i64 x1, .int .i64 x2, .int .i64 x3, .int .i64 x4, .int .i64 x5, .int .i64 x6, .int .i64 x7, .bool s, .int .i64 x9]⟩] => some (.bool (shpB ⟨x1, x2, x3, x4, x5, x6, x7, s, x9⟩))
  | 63, [.agg ⟨[.int .i64 x1, .int .i64 x2, .int .i64 x3, .int .i64 x4, .int .i64 x5, .int .i64 x6, .int .i64 x7, .bool s, .int .i64 x9]⟩] => some (.bool (beamB ⟨x1, x2, x3, x4, x5, x6, x7, s, x9⟩))
  | g, xs => match detT g xs with
    | some r => some r
    | none => detR v c g xs
theorem detU_ok {v : Value} {c : Cht} {w0 : World} {X : Nat → Prop} (hw : Ways w0) (hc : ChOk w0 v c) (hX : ∀ b, b < w0.heap.size → ¬ X b) : DetFn Tryz.prog ⟨w0, X⟩ (detU v c) := by
  intro g args r h w hk
  unfold detU at h
  split at h
  · cases h
    exact det_of_fn (shaped_fn w ⟨_, _, _, _, _, _, _, _, _⟩)
  · cases h
    exact det_of_fn (isBeam_fn w ⟨_, _, _, _, _, _, _, _, _⟩)
  · split at h
    · rename_i e
      cases h
      exact detT_ok w0 X _ _ _ e w hk
    · exact detR_ok hw hc hX _ _ _ h w hk
theorem detU_eq (v : Value) (c : Cht) : (∀ n l h : Int, detU v c 76 [I n, I l, I h] = some (.bool (inB n l h))) ∧ (∀ n l h : Int, detU v c 33 [I n, I l, I h] = some (.bool (inB n l h))) ∧
    (∀ (x1 x2 x3 x4 x5 x6 x7 : Int) (s : Bool) (x9 : Int), detU v c 150 [.agg #[I x1, I x2, I x3, I x4, I x5, I x6, I x7, .bool s, I x9]] = some (.bool (shpB ⟨x1, x2, x3, x4, x5, x6, x7, s, x9⟩))) ∧
    (∀ (x1 x2 x3 x4 x5 x6 x7 : Int) (s : Bool) (x9 : Int), detU v c 63 [.agg #[I x1, I x2, I x3, I x4, I x5, I x6, I x7, .bool s, I x9]] = some (.bool (beamB ⟨x1, x2, x3, x4, x5, x6, x7, s, x9⟩))) ∧
    (∀ (x1 x2 x3 x4 x5 x6 x7 : Int) (s : Bool) (x9 : Int), detU v c 151 [.agg #[I x1, I x2, I x3, I x4, I x5, I x6, I x7, .bool s, I x9]] = some (.bool (wgtB ⟨x1, x2, x3, x4, x5, x6, x7, s, x9⟩))) ∧
    (∀ n, detU v c 32 [I n] = some (.bool (inB n 1 100))) :=
  ⟨fun _ _ _ => rfl, fun _ _ _ => rfl, fun _ _ _ _ _ _ _ _ _ => rfl, fun _ _ _ _ _ _ _ _ _ => rfl, fun _ _ _ _ _ _ _ _ _ => rfl, fun _ => rfl⟩
theorem detU_check {v : Value} {c : Cht} (hs : c.small) : detU v c 106 [v] = some (I (if c.okB then 0 else 10)) ∧ detU v c 31 [v] = some (I (if c.okB then 0 else 10)) := detR_check hs
theorem all_take {α : Type} {p : α → Bool} {l : List α} {i : Nat} {x : α} (h : (l.take i).all p = true) (hx : l[i]? = some x) (hp : p x = true) : (l.take (i + 1)).all p = true := by
  rw [List.take_add_one, hx, List.all_append, h]
  simp [hp]
theorem all_not {α : Type} {p : α → Bool} {l : List α} {i : Nat} {x : α} (hx : l[i]? = some x) (hp : p x = false) : l.all p = false := by
  rw [List.all_eq_false]
  exact ⟨x, List.mem_of_getElem? hx, by simp [hp]⟩
theorem check3_fn (w : World) (hw : Ways w) (v : Value) (d : Dis) (hd : DsOk w v d) (hsm : d.small) : SX.Fn Tryz.prog 100 [v] w (fun _ => False) fun q N => q = I d.E := by
  obtain ⟨c, dr, pc, rs⟩ := d
  obtain ⟨sD, sT, sS, sR, rfl, hc, hsR⟩ := hd
  have hD := detU_ok (X := fun _ => False) hw hc (fun _ _ => id)
  have hck := (detU_check (v := .agg #[I c.wide, I c.high, sD, sT, sS]) hsm.1).1
  have hU := detU_eq (.agg #[I c.wide, I c.high, sD, sT, sS]) c
  have hdl : c.depth.length ≤ 200 := hsm.1.1
  have htl : c.tide.length ≤ 100 := hsm.1.2.1
  have hrl : rs.length ≤ 20 := hsm.2
  have e0 : wr ((c.depth.length : Int) - 1) = (c.depth.length : Int) - 1 := wrap_id (by omega)
  have e1 : wr ((c.tide.length : Int) - 1) = (c.tide.length : Int) - 1 := wrap_id (by omega)
  obtain ⟨_, _, _, hh, hsD, hsT, hsS⟩ := hc
  cases hh
  obtain ⟨aD, nD, cD, rfl⟩ := hsD.shape
  obtain ⟨aT, nT, cT, rfl⟩ := hsT.shape
  obtain ⟨aR, nR, cR, rfl⟩ := hsR.shape
  have hnD := hsD.le i1_len (by omega)
  have hnT := hsT.le spc_len (by omega)
  have hnR := hsR.le rpc_len (by omega)
  subst hnD hnT hnR
  unfold Dis.E Dis.valB Dis.numB
  simp only [] at hsR ⊢
  refine walkC [9, 19] [] [] hD Tryz.func100 rfl Tryz.ntmps100 res100 (by kernel_rfl) no_facts ?_
  cases hok : c.okB with
  | false =>
    rw [hok] at hck
    simp (config := { maxSteps := 4000000 }) only [↓sx0, ↓sx1, ↓sx2, ↓sx3, ↓sx4, ↓sx5, ↓sx6, sx0, sx1, sx2, sx3, sx4, sx5, sx6, tf100, ev3_hold, sxo, sxc, sxp, sxq, sxr, sxs, sxl, sxm, simprocAttr, hck]
    all_goals rfl
  | true =>
  rw [hok] at hck
  simp (config := { maxSteps := 4000000 }) only [↓sx0, ↓sx1, ↓sx2, ↓sx3, ↓sx4, ↓sx5, ↓sx6, sx0, sx1, sx2, sx3, sx4, sx5, sx6, tf100, ev3_hold, sxo, sxc, sxp, sxq, sxr, sxs, sxl, sxm, simprocAttr, hck]
  refine cut_const [(12, 27)] (fun _ : Unit => [(27, .bool (!(inB dr 1 100 && inB pc 0 5 && decide (rs.length ≤ 12))))]) (fun _ H2 => H2 = []) ?_ ?_
  · cases h1 : inB dr 1 100 with
    | false =>
      simp (config := { maxSteps := 4000000 }) only [↓sx0, ↓sx1, ↓sx2, ↓sx3, ↓sx4, ↓sx5, ↓sx6, sx0, sx1, sx2, sx3, sx4, sx5, sx6, tf100, ev3_hold, sxo, sxc, sxp, sxq, sxr, sxs, sxl, sxm, simprocAttr, hU, h1]
      exact ⟨(), _, HImp.refl _ _, rfl⟩
    | true =>
    cases h2 : inB pc 0 5 with
    | false =>
      simp (config := { maxSteps := 4000000 }) only [↓sx0, ↓sx1, ↓sx2, ↓sx3, ↓sx4, ↓sx5, ↓sx6, sx0, sx1, sx2, sx3, sx4, sx5, sx6, tf100, ev3_hold, sxo, sxc, sxp, sxq, sxr, sxs, sxl, sxm, simprocAttr, hU, h1, h2]
      exact ⟨(), _, HImp.refl _ _, rfl⟩
    | true =>
    by_cases h3 : rs.length ≤ 12
    · have p1 : ((rs.length : Int) > 12) = False := eq_false (by omega)
      simp (config := { maxSteps := 4000000 }) only [↓sx0, ↓sx1, ↓sx2, ↓sx3, ↓sx4, ↓sx5, ↓sx6, sx0, sx1, sx2, sx3, sx4, sx5, sx6, tf100, ev3_hold, sxo, sxc, sxp, sxq, sxr, sxs, sxl, sxm, simprocAttr, hU, h1, h2, p1]
      first | exact ⟨(), _, HImp.refl _ _, rfl⟩ | exact ⟨(), _, by simp [h3], HImp.refl _ _, rfl⟩
    · have p1 : ((rs.length : Int) > 12) = True := eq_true (by omega)
      simp (config := { maxSteps := 4000000 }) only [↓sx0, ↓sx1, ↓sx2, ↓sx3, ↓sx4, ↓sx5, ↓sx6, sx0, sx1, sx2, sx3, sx4, sx5, sx6, tf100, ev3_hold, sxo, sxc, sxp, sxq, sxr, sxs, sxl, sxm, simprocAttr, hU, h1, h2, p1]
      first | exact ⟨(), _, HImp.refl _ _, rfl⟩ | exact ⟨(), _, by simp [h3], HImp.refl _ _, rfl⟩
  rintro _ H2 g2 rfl
  cases hn : (inB dr 1 100 && inB pc 0 5 && decide (rs.length ≤ 12)) with
  | false =>
    simp (config := { maxSteps := 4000000 }) only [↓sx0, ↓sx1, ↓sx2, ↓sx3, ↓sx4, ↓sx5, ↓sx6, sx0, sx1, sx2, sx3, sx4, sx5, sx6, tf100, ev3_hold, sxo, sxc, sxp, sxq, sxr, sxs, sxl, sxm, simprocAttr]
    all_goals rfl
  | true =>
  have hr0 := hsR.rd0
  simp (config := { maxSteps := 4000000 }) only [↓sx0, ↓sx1, ↓sx2, ↓sx3, ↓sx4, ↓sx5, ↓sx6, sx0, sx1, sx2, sx3, sx4, sx5, sx6, tf100, ev3_hold, sxo, sxc, sxp, sxq, sxr, sxs, sxl, sxm, simprocAttr]
  refine loop_constH [] (HImp.nil _ _) [(2, 2), (5, 5), (31, 65)] (fun i : Nat => [(31, I i)]) (fun i H1 => i ≤ rs.length ∧ (rs.take i).all (repB c) = true) (fun i => rs.length - i) 0 ?_ ⟨by omega, rfl⟩ ?_
  · simp (config := { maxSteps := 4000000 }) only [↓sx0, ↓sx1, ↓sx2, ↓sx3, ↓sx4, ↓sx5, ↓sx6, sx0, sx1, sx2, sx3, sx4, sx5, sx6, tf100, ev3_hold, sxo, sxc, sxp, sxq, sxr, sxs, sxl, sxm, simprocAttr]
    try simp
  rintro i H1 g1 ⟨hi, hall⟩
  by_cases hin : i = rs.length
  · have e7 : ((i : Int) < (rs.length : Int)) = False := eq_false (by omega)
    rw [List.take_of_length_le (by omega)] at hall
    rw [hall]
    refine ⟨?_⟩
    simp (config := { maxSteps := 4000000 }) only [↓sx0, ↓sx1, ↓sx2, ↓sx3, ↓sx4, ↓sx5, ↓sx6, sx0, sx1, sx2, sx3, sx4, sx5, sx6, tf100, ev3_hold, sxo, sxc, sxp, sxq, sxr, sxs, sxl, sxm, simprocAttr, e7]
    all_goals rfl
  have e7 : ((i : Int) < (rs.length : Int)) = True := eq_true (by omega)
  have e8 : wr (i + 1) = ((i + 1 : Nat) : Int) := (wrap_id (by omega)).trans (by omega)
  obtain ⟨r, hr⟩ : ∃ r, rs[i]? = some r := ⟨_, List.getElem?_eq_getElem (by omega)⟩
  obtain ⟨x1, x2, x3, x4, x5, x6, x7, s, x9⟩ := r
  have hyes : (inB x1 0 ((c.tide.length : Int) - 1) && inB x3 0 ((c.depth.length : Int) - 1) && shpB ⟨x1, x2, x3, x4, x5, x6, x7, s, x9⟩ && wgtB ⟨x1, x2, x3, x4, x5, x6, x7, s, x9⟩) = true → (rs.take (i + 1)).all (repB c) = true := fun hp => all_take hall hr hp
  have hno : (inB x1 0 ((c.tide.length : Int) - 1) && inB x3 0 ((c.depth.length : Int) - 1) && shpB ⟨x1, x2, x3, x4, x5, x6, x7, s, x9⟩ && wgtB ⟨x1, x2, x3, x4, x5, x6, x7, s, x9⟩) = false → rs.all (repB c) = false := fun hp => all_not (p := repB c) hr hp
  refine ⟨?_⟩
  simp (config := { maxSteps := 4000000 }) only [↓sx0, ↓sx1, ↓sx2, ↓sx3, ↓sx4, ↓sx5, ↓sx6, sx0, sx1, sx2, sx3, sx4, sx5, sx6, tf100, ev3_hold, sxo, sxc, sxp, sxq, sxr, sxs, sxl, sxm, simprocAttr, e7]
  refine amid (at_n (hr0 _) rpc_len (by omega) hr fun ad => ?_)
  unfold rpc
  simp (config := { maxSteps := 4000000 }) only [↓sx0, ↓sx1, ↓sx2, ↓sx3, ↓sx4, ↓sx5, ↓sx6, sx0, sx1, sx2, sx3, sx4, sx5, sx6, tf100, ev3_hold, sxo, sxc, sxp, sxq, sxr, sxs, sxl, sxm, simprocAttr]
  refine cut_constH [(35, 64)] (fun _ : Unit => [(64, .bool (!(inB x1 0 ((c.tide.length : Int) - 1) && inB x3 0 ((c.depth.length : Int) - 1) && shpB ⟨x1, x2, x3, x4, x5, x6, x7, s, x9⟩ && wgtB ⟨x1, x2, x3, x4, x5, x6, x7, s, x9⟩)))]) (fun _ H2 => True) ?_ ?_
  · refine ⟨?_⟩
    cases h1 : inB x1 0 ((c.tide.length : Int) - 1) with
    | false =>
      simp (config := { maxSteps := 4000000 }) only [↓sx0, ↓sx1, ↓sx2, ↓sx3, ↓sx4, ↓sx5, ↓sx6, sx0, sx1, sx2, sx3, sx4, sx5, sx6, tf100, ev3_hold, sxo, sxc, sxp, sxq, sxr, sxs, sxl, sxm, simprocAttr, hU, e0, e1, h1]
      first | exact ⟨(), _, HImp.refl _ _, trivial⟩ | exact ⟨(), _, HImp.refl _ _⟩
    | true =>
    cases h2 : inB x3 0 ((c.depth.length : Int) - 1) with
    | false =>
      simp (config := { maxSteps := 4000000 }) only [↓sx0, ↓sx1, ↓sx2, ↓sx3, ↓sx4, ↓sx5, ↓sx6, sx0, sx1, sx2, sx3, sx4, sx5, sx6, tf100, ev3_hold, sxo, sxc, sxp, sxq, sxr, sxs, sxl, sxm, simprocAttr, hU, e0, e1, h1, h2]
      first | exact ⟨(), _, HImp.refl _ _, trivial⟩ | exact ⟨(), _, HImp.refl _ _⟩
    | true =>
    cases h3 : shpB ⟨x1, x2, x3, x4, x5, x6, x7, s, x9⟩ with
    | false =>
      simp (config := { maxSteps := 4000000 }) only [↓sx0, ↓sx1, ↓sx2, ↓sx3, ↓sx4, ↓sx5, ↓sx6, sx0, sx1, sx2, sx3, sx4, sx5, sx6, tf100, ev3_hold, sxo, sxc, sxp, sxq, sxr, sxs, sxl, sxm, simprocAttr, hU, e0, e1, h1, h2, h3]
      first | exact ⟨(), _, HImp.refl _ _, trivial⟩ | exact ⟨(), _, HImp.refl _ _⟩
    | true =>
    cases h4 : wgtB ⟨x1, x2, x3, x4, x5, x6, x7, s, x9⟩ with
    | false =>
      simp (config := { maxSteps := 4000000 }) only [↓sx0, ↓sx1, ↓sx2, ↓sx3, ↓sx4, ↓sx5, ↓sx6, sx0, sx1, sx2, sx3, sx4, sx5, sx6, tf100, ev3_hold, sxo, sxc, sxp, sxq, sxr, sxs, sxl, sxm, simprocAttr, hU, e0, e1, h1, h2, h3, h4]
      first | exact ⟨(), _, HImp.refl _ _, trivial⟩ | exact ⟨(), _, HImp.refl _ _⟩
    | true =>
      simp (config := { maxSteps := 4000000 }) only [↓sx0, ↓sx1, ↓sx2, ↓sx3, ↓sx4, ↓sx5, ↓sx6, sx0, sx1, sx2, sx3, sx4, sx5, sx6, tf100, ev3_hold, sxo, sxc, sxp, sxq, sxr, sxs, sxl, sxm, simprocAttr, hU, e0, e1, h1, h2, h3, h4]
      first | exact ⟨(), _, HImp.refl _ _, trivial⟩ | exact ⟨(), _, HImp.refl _ _⟩
  rintro _ H2 g2 _
  cases hB : (inB x1 0 ((c.tide.length : Int) - 1) && inB x3 0 ((c.depth.length : Int) - 1) && shpB ⟨x1, x2, x3, x4, x5, x6, x7, s, x9⟩ && wgtB ⟨x1, x2, x3, x4, x5, x6, x7, s, x9⟩) with
  | false =>
    rw [hno hB]
    refine ⟨?_⟩
    simp (config := { maxSteps := 4000000 }) only [↓sx0, ↓sx1, ↓sx2, ↓sx3, ↓sx4, ↓sx5, ↓sx6, sx0, sx1, sx2, sx3, sx4, sx5, sx6, tf100, ev3_hold, sxo, sxc, sxp, sxq, sxr, sxs, sxl, sxm, simprocAttr]
    all_goals rfl
  | true =>
    have hy := hyes hB
    refine ⟨?_⟩
    simp (config := { maxSteps := 4000000 }) only [↓sx0, ↓sx1, ↓sx2, ↓sx3, ↓sx4, ↓sx5, ↓sx6, sx0, sx1, sx2, sx3, sx4, sx5, sx6, tf100, ev3_hold, sxo, sxc, sxp, sxq, sxr, sxs, sxl, sxm, simprocAttr, e8]
    exact ⟨i + 1, _, rfl, HImp.nil _ _, ⟨by omega, hy⟩, by omega⟩
end Go.Proofs.YtnbogcpnpcbjgaaGreatDoor

