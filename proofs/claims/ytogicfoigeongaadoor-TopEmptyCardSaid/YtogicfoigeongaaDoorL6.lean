/- Parts of a proof: the symbolic walk and what it shows of single functions. -/
import Derived.Test.YtogicfoigeongaaDoorL5
import Derived.Test.YtogicfoigeongaaDoorL2
set_option linter.all false
namespace Go.Proofs.YtogicfoigeongaaDoor
open Go.RowKit Go.SX
set_option maxRecDepth 10000
set_option maxHeartbeats 0
set_option linter.unusedSimpArgs false
set_option linter.unusedVariables false
theorem LegsOk.nil (w : World) : LegsOk w (.slice none 0 0) [] := ⟨[], rfl, Sl.nil _ _, by simp⟩
theorem TrN.old {w : World} {c : Cht} {sD sT sS vl : Value} {bx : Nat} {vn : Value} {H : List HO} (hc : ChOk w (.agg #[I c.wide, I c.high, sD, sT, sS]) c) (hm : HO.cells bx 102 (trfC c sD sT sS vl vn) ∈ H) {w' : World} (hp : Hp ⟨w, fun _ => False⟩ H w') : TrC w' bx c sD sT sS vl vn := ⟨cells_old hm hp, hc.hp hp⟩
theorem ask_fn (w : World) (hw : Ways w) (sD sT sS : Value) (c : Cht) (hc : ChOk w (.agg #[I c.wide, I c.high, sD, sT, sS]) c) (hsm : c.small) (hok : c.ok) (g : Int) (tl : Bool) (A F G : Nat) (hkd : kindB 0 g = true) (hA : A < c.tide.length) (hF : F < c.depth.length) (hG : G < c.depth.length) :
    SX.Fn Tryd.prog 34 [.agg #[I c.wide, I c.high, sD, sT, sS], .slice none 0 0, trv ⟨A, 0, g, tl, F, G⟩] w (fun _ => False) (TrN c sD sT sS (.slice none 0 0)) := by
  have dn : ∀ (g : Nat) (xs : List Value), det0 g xs = none := fun _ _ => rfl
  have hop := fun (H : List HO) w' (hp : Hp ⟨w, fun _ => False⟩ H w') => lopen_fn w' (hw.hp hp) sD sT sS (.slice none 0 0) c (hc.hp hp) hsm hok [] (LegsOk.nil _) (by simp) (by simp)
  have htr := fun (bx : Nat) (vn : Value) (H : List HO) w' (hp : Hp ⟨w, fun _ => False⟩ H w') (hm : HO.cells bx 102 (trfC c sD sT sS (.slice none 0 0) vn) ∈ H) => ltrip_fn w' bx c sD sT sS (.slice none 0 0) vn (TrN.old hc hm hp) hok hsm ⟨A, 0, g, tl, F, G⟩ hkd ⟨by simp only []; omega, by simp only []; omega⟩ ⟨by simp only []; omega, by simp only []; omega⟩ ⟨by simp only []; omega, by simp only []; omega⟩
  unfold trv at htr ⊢
  simp only [] at htr ⊢
  unfold TrN at hop
  refine walk [] [] (det0_ok _ _) Tryd.func34 rfl Tryd.ntmps34 res34 (by kernel_rfl) no_facts ?_
  simp (config := { maxSteps := 4000000 }) only [↓sx0, ↓sx1, ↓sx2, ↓sx3, ↓sx4, ↓sx5, ↓sx6, sx0, sx1, sx2, sx3, sx4, sx5, sx6, tf34, ev3_hold, sxo, sxc, sxp, sxq, sxr, sxs, sxl, sxm, simprocAttr, dn]
  refine CallOb.pureH (fun w' hp => hop _ w' hp) ?_
  rintro q N ⟨bx, vn, rfl, hm, hL⟩
  refine ⟨?_⟩
  simp (config := { maxSteps := 4000000 }) only [↓sx0, ↓sx1, ↓sx2, ↓sx3, ↓sx4, ↓sx5, ↓sx6, sx0, sx1, sx2, sx3, sx4, sx5, sx6, tf34, ev3_hold, sxo, sxc, sxp, sxq, sxr, sxs, sxl, sxm, simprocAttr, dn]
  refine CallOb.pureH (fun w' hp => htr bx vn _ w' hp (by simp [hm])) ?_
  rintro q N2 rfl
  refine ⟨?_⟩
  simp (config := { maxSteps := 4000000 }) only [↓sx0, ↓sx1, ↓sx2, ↓sx3, ↓sx4, ↓sx5, ↓sx6, sx0, sx1, sx2, sx3, sx4, sx5, sx6, tf34, ev3_hold, sxo, sxc, sxp, sxq, sxr, sxs, sxl, sxm, simprocAttr, dn]
  obtain ⟨ps, h1, h2, h3⟩ := hL
  exact ⟨bx, vn, rfl, by simp [hm], ps, h1, by simp [h2], fun p hp => by simp [h3 p hp]⟩
theorem lRoute_fn (w : World) (hw : Ways w) (sD sT sS : Value) (c : Cht) (hc : ChOk w (.agg #[I c.wide, I c.high, sD, sT, sS]) c) (hsm : c.small) (hok : c.ok) (g : Int) (tl : Bool) (A F G : Nat) (hkd : kindB 0 g = true) (hA : A < c.tide.length) (hF : F < c.depth.length) (hG : G < c.depth.length) :
    SX.Fn Tryd.prog 15 [.agg #[I c.wide, I c.high, sD, sT, sS], .slice none 0 0, trv ⟨A, 0, g, tl, F, G⟩] w (fun _ => False) fun v N => ∃ q e, v = .tuple #[q, I e] ∧ ((∃ p, RtP c g A F G p ∧ p ≠ [] ∧ Got q 3 1 i1 (nts p) N ∧ e = 0) ∨ (q = .slice none 0 0 ∧ e = 3 ∧ ∀ i, A + i < c.tide.length → ¬ Rr c g A F i G)) := by
  have dn : ∀ (g : Nat) (xs : List Value), det0 g xs = none := fun _ _ => rfl
  have has := fun (H : List HO) w' (hp : Hp ⟨w, fun _ => False⟩ H w') => ask_fn w' (hw.hp hp) sD sT sS c (hc.hp hp) hsm hok g tl A F G hkd hA hF hG
  have hro := fun (bx : Nat) (vn : Value) (H : List HO) w' (hp : Hp ⟨w, fun _ => False⟩ H w') (hm : HO.cells bx 102 (trfC c sD sT sS (.slice none 0 0) vn) ∈ H) (hL : LLOk i1 1 w' vn (srtNear c)) => lroute_fn w' bx c sD sT sS (.slice none 0 0) vn (TrN.old hc hm hp) _ hL srtNear_ok (Sl.nil _ _) hok hsm g tl A F G hkd hA hF hG
  unfold trv at has hro ⊢
  simp only [] at has hro ⊢
  unfold TrN at has
  unfold RouP at hro
  refine walk [] [] (det0_ok _ _) Tryd.func15 rfl Tryd.ntmps15 res15 (by kernel_rfl) no_facts ?_
  simp (config := { maxSteps := 4000000 }) only [↓sx0, ↓sx1, ↓sx2, ↓sx3, ↓sx4, ↓sx5, ↓sx6, sx0, sx1, sx2, sx3, sx4, sx5, sx6, tf15, ev3_hold, sxo, sxc, sxp, sxq, sxr, sxs, sxl, sxm, simprocAttr, dn]
  refine CallOb.pureH (fun w' hp => has _ w' hp) ?_
  rintro q N ⟨bx, vn, rfl, hm, hL⟩
  refine ⟨?_⟩
  simp (config := { maxSteps := 4000000 }) only [↓sx0, ↓sx1, ↓sx2, ↓sx3, ↓sx4, ↓sx5, ↓sx6, sx0, sx1, sx2, sx3, sx4, sx5, sx6, tf15, ev3_hold, sxo, sxc, sxp, sxq, sxr, sxs, sxl, sxm, simprocAttr, dn]
  refine CallOb.pureH (fun w' hp => hro bx vn _ w' hp (by simp [hm]) (hL.ok (fun h hh => by simp [hh]) hp)) ?_
  rintro q N2 (⟨p, h1, h2, h3, h4⟩ | ⟨rfl, h1⟩)
  · obtain ⟨ad, cp, rfl, h5, h6⟩ := h3
    obtain ⟨a, rfl⟩ : ∃ a, ad = some a := by
      cases ad with
      | none =>
        have := h5 rfl
        unfold nts at this
        rw [List.map_eq_nil_iff] at this
        exact absurd this h2
      | some a => exact ⟨a, rfl⟩
    refine ⟨?_⟩
    simp (config := { maxSteps := 4000000 }) only [↓sx0, ↓sx1, ↓sx2, ↓sx3, ↓sx4, ↓sx5, ↓sx6, sx0, sx1, sx2, sx3, sx4, sx5, sx6, tf15, ev3_hold, sxo, sxc, sxp, sxq, sxr, sxs, sxl, sxm, simprocAttr, dn, Option.isNone_some, reduceCtorEq, false_imp_iff, true_imp_iff]
    exact ⟨_, 0, rfl, .inl ⟨p, h1, h2, ⟨_, _, rfl, h5, h6.imp id fun h => List.mem_append_left _ h⟩, rfl⟩⟩
  · refine ⟨?_⟩
    simp (config := { maxSteps := 4000000 }) only [↓sx0, ↓sx1, ↓sx2, ↓sx3, ↓sx4, ↓sx5, ↓sx6, sx0, sx1, sx2, sx3, sx4, sx5, sx6, tf15, ev3_hold, sxo, sxc, sxp, sxq, sxr, sxs, sxl, sxm, simprocAttr, dn, Option.isNone_none, reduceCtorEq, false_imp_iff, true_imp_iff]
    exact ⟨_, 3, rfl, .inr ⟨rfl, rfl, h1⟩⟩
end Go.Proofs.YtogicfoigeongaaDoor

namespace Go.Proofs.YtogicfoigeongaaDoor
open Go.RowKit Go.SX
set_option maxRecDepth 10000
set_option maxHeartbeats 0
set_option linter.unusedSimpArgs false
set_option linter.unusedVariables false
theorem far6_fn (w : World) (v : Value) (c : Cht) (hc : ChOk w v c) : SX.Fn Tryd.prog 12 [v] w (fun _ => False) fun q N => ∃ b, q = .bool b ∧ (b = false → c.small) := by
  have dn : ∀ (g : Nat) (xs : List Value), det0 g xs = none := fun _ _ => rfl
  have hck := fun (hs : c.small) (H : List HO) w' (hp : Hp ⟨w, fun _ => False⟩ H w') => rcheck_fn w' v c (hc.hp hp) hs
  obtain ⟨sD, sT, sS, rfl, hsD, hsT, hsS⟩ := hc
  have hce := fun w' => cells_fn w' c.wide c.high sD sT sS
  obtain ⟨aD, nD, cD, rfl⟩ := hsD.shape
  obtain ⟨aT, nT, cT, rfl⟩ := hsT.shape
  obtain ⟨aS, nS, cS, rfl⟩ := hsS.shape
  have hnD := hsD.le i1_len (by omega)
  have hnT := hsT.le spc_len (by omega)
  have hnS := hsS.le i1_len (by omega)
  subst hnD hnT hnS
  refine walk [] [] (det0_ok _ _) Tryd.func12 rfl Tryd.ntmps12 res12 (by kernel_rfl) no_facts ?_
  by_cases h1 : (c.depth.length : Int) > 200
  · have e1 : ((c.depth.length : Int) > 200) = True := eq_true h1
    simp (config := { maxSteps := 4000000 }) only [↓sx0, ↓sx1, ↓sx2, ↓sx3, ↓sx4, ↓sx5, ↓sx6, sx0, sx1, sx2, sx3, sx4, sx5, sx6, tf12, ev3_hold, sxo, sxc, sxp, sxq, sxr, sxs, sxl, sxm, simprocAttr, e1]
    exact ⟨true, rfl, fun h => by cases h⟩
  have e1 : ((c.depth.length : Int) > 200) = False := eq_false h1
  by_cases h2 : (c.tide.length : Int) > 80
  · have e2 : ((c.tide.length : Int) > 80) = True := eq_true h2
    simp (config := { maxSteps := 4000000 }) only [↓sx0, ↓sx1, ↓sx2, ↓sx3, ↓sx4, ↓sx5, ↓sx6, sx0, sx1, sx2, sx3, sx4, sx5, sx6, tf12, ev3_hold, sxo, sxc, sxp, sxq, sxr, sxs, sxl, sxm, simprocAttr, e1, e2]
    exact ⟨true, rfl, fun h => by cases h⟩
  have e2 : ((c.tide.length : Int) > 80) = False := eq_false h2
  by_cases h3 : (c.swell.length : Int) > 80
  · have e3 : ((c.swell.length : Int) > 80) = True := eq_true h3
    simp (config := { maxSteps := 4000000 }) only [↓sx0, ↓sx1, ↓sx2, ↓sx3, ↓sx4, ↓sx5, ↓sx6, sx0, sx1, sx2, sx3, sx4, sx5, sx6, tf12, ev3_hold, sxo, sxc, sxp, sxq, sxr, sxs, sxl, sxm, simprocAttr, e1, e2, e3]
    exact ⟨true, rfl, fun h => by cases h⟩
  have e3 : ((c.swell.length : Int) > 80) = False := eq_false h3
  have hs : c.small := ⟨by omega, by omega, by omega⟩
  simp (config := { maxSteps := 4000000 }) only [↓sx0, ↓sx1, ↓sx2, ↓sx3, ↓sx4, ↓sx5, ↓sx6, sx0, sx1, sx2, sx3, sx4, sx5, sx6, tf12, ev3_hold, sxo, sxc, sxp, sxq, sxr, sxs, sxl, sxm, simprocAttr, e1, e2, e3, dn]
  refine CallOb.pureH (fun w' hp => hck hs _ w' hp) ?_
  rintro q N rfl
  cases ho : c.okB with
  | false =>
    refine ⟨?_⟩
    simp (config := { maxSteps := 4000000 }) only [↓sx0, ↓sx1, ↓sx2, ↓sx3, ↓sx4, ↓sx5, ↓sx6, sx0, sx1, sx2, sx3, sx4, sx5, sx6, tf12, ev3_hold, sxo, sxc, sxp, sxq, sxr, sxs, sxl, sxm, simprocAttr, dn]
    first | exact ⟨false, rfl, fun _ => hs⟩ | trace_state
  | true =>
    refine ⟨?_⟩
    simp (config := { maxSteps := 4000000 }) only [↓sx0, ↓sx1, ↓sx2, ↓sx3, ↓sx4, ↓sx5, ↓sx6, sx0, sx1, sx2, sx3, sx4, sx5, sx6, tf12, ev3_hold, sxo, sxc, sxp, sxq, sxr, sxs, sxl, sxm, simprocAttr, dn]
    refine CallOb.pureH (fun w' hp => hce w') ?_
    rintro q N2 rfl
    obtain ⟨z, hz⟩ : ∃ z, wr (c.wide * c.high) = z := ⟨_, rfl⟩
    rw [hz]
    by_cases hz2 : z > 20
    · have ez : (z > 20) = True := eq_true hz2
      refine ⟨?_⟩
      simp (config := { maxSteps := 4000000 }) only [↓sx0, ↓sx1, ↓sx2, ↓sx3, ↓sx4, ↓sx5, ↓sx6, sx0, sx1, sx2, sx3, sx4, sx5, sx6, tf12, ev3_hold, sxo, sxc, sxp, sxq, sxr, sxs, sxl, sxm, simprocAttr, ez, dn]
      first | exact ⟨true, rfl, fun _ => hs⟩ | trace_state
    have ez : (z > 20) = False := eq_false hz2
    refine ⟨?_⟩
    simp (config := { maxSteps := 4000000 }) only [↓sx0, ↓sx1, ↓sx2, ↓sx3, ↓sx4, ↓sx5, ↓sx6, sx0, sx1, sx2, sx3, sx4, sx5, sx6, tf12, ev3_hold, sxo, sxc, sxp, sxq, sxr, sxs, sxl, sxm, simprocAttr, ez, dn]
    first | exact ⟨_, rfl, fun _ => hs⟩ | trace_state
theorem check06_fn (w : World) (v : Value) (c : Cht) (hc : ChOk w v c) (hs : c.small) : SX.Fn Tryd.prog 13 [v, .slice none 0 0] w (fun _ => False) fun q N => q = I (if c.okB then 0 else 10) := by
  have dn : ∀ (g : Nat) (xs : List Value), det0 g xs = none := fun _ _ => rfl
  have hck := fun (H : List HO) w' (hp : Hp ⟨w, fun _ => False⟩ H w') => rcheck_fn w' v c (hc.hp hp) hs
  obtain ⟨sD, sT, sS, rfl, hsD, hsT, hsS⟩ := hc
  refine walk [] [] (det0_ok _ _) Tryd.func13 rfl Tryd.ntmps13 res13 (by kernel_rfl) no_facts ?_
  simp (config := { maxSteps := 4000000 }) only [↓sx0, ↓sx1, ↓sx2, ↓sx3, ↓sx4, ↓sx5, ↓sx6, sx0, sx1, sx2, sx3, sx4, sx5, sx6, tf13, ev3_hold, sxo, sxc, sxp, sxq, sxr, sxs, sxl, sxm, simprocAttr, dn]
  refine CallOb.pureH (fun w' hp => hck _ w' hp) ?_
  rintro q N rfl
  cases ho : c.okB with
  | false =>
    refine ⟨?_⟩
    simp (config := { maxSteps := 4000000 }) only [↓sx0, ↓sx1, ↓sx2, ↓sx3, ↓sx4, ↓sx5, ↓sx6, sx0, sx1, sx2, sx3, sx4, sx5, sx6, tf13, ev3_hold, sxo, sxc, sxp, sxq, sxr, sxs, sxl, sxm, simprocAttr, dn]
    try rfl
  | true =>
    refine ⟨?_⟩
    simp (config := { maxSteps := 4000000 }) only [↓sx0, ↓sx1, ↓sx2, ↓sx3, ↓sx4, ↓sx5, ↓sx6, sx0, sx1, sx2, sx3, sx4, sx5, sx6, tf13, ev3_hold, sxo, sxc, sxp, sxq, sxr, sxs, sxl, sxm, simprocAttr, dn]
    refine loop_constH [] (HImp.nil _ _) [(4, 5), (12, 24)] (fun k : Nat => [(5, I k)]) (fun k H1 => k = 0) (fun k => 0) 0 ?_ rfl ?_
    · simp (config := { maxSteps := 4000000 }) only [↓sx0, ↓sx1, ↓sx2, ↓sx3, ↓sx4, ↓sx5, ↓sx6, sx0, sx1, sx2, sx3, sx4, sx5, sx6, tf13, ev3_hold, sxo, sxc, sxp, sxq, sxr, sxs, sxl, sxm, simprocAttr]
      try simp
    rintro k H1 g1 rfl
    have e8 : (((0 : Nat) : Int) < ((0 : Nat) : Int)) = False := eq_false (by omega)
    have e7 : (((0 : Nat) : Int) < 0) = False := eq_false (by omega)
    refine ⟨?_⟩
    simp (config := { maxSteps := 4000000 }) only [↓sx0, ↓sx1, ↓sx2, ↓sx3, ↓sx4, ↓sx5, ↓sx6, sx0, sx1, sx2, sx3, sx4, sx5, sx6, tf13, ev3_hold, sxo, sxc, sxp, sxq, sxr, sxs, sxl, sxm, simprocAttr, e7, e8]
    try rfl
end Go.Proofs.YtogicfoigeongaaDoor

namespace Go.Proofs.YtogicfoigeongaaDoor
open Go.RowKit Go.SX
set_option maxRecDepth 10000
set_option maxHeartbeats 0
set_option linter.unusedSimpArgs false
set_option linter.unusedVariables false
theorem rwithin_fn (w : World) (n l h : Int) : SX.Fn Tryd.prog 58 [I n, I l, I h] w (fun _ => False) fun v N => v = .bool (inB n l h) := by
  refine walk [] [] (det0_ok _ _) Tryd.func58 rfl Tryd.ntmps58 res58 (by kernel_rfl) no_facts ?_
  simp (config := { maxSteps := 4000000 }) only [↓sx0, ↓sx1, ↓sx2, ↓sx3, ↓sx4, ↓sx5, ↓sx6, sx0, sx1, sx2, sx3, sx4, sx5, sx6, tf58, ev3_hold, sxo, sxc, sxp, sxq, sxr, sxs, sxl, sxm, simprocAttr]
  unfold inB
  exact ⟨fun h1 => by simp [h1], fun h1 => by simp [h1]⟩
theorem runit_fn (w : World) (l d : Int) : SX.Fn Tryd.prog 33 [I l, I d] w (fun _ => False) fun v N => v = .bool (kindB l d) := by
  have dn : ∀ (g : Nat) (xs : List Value), det0 g xs = none := fun _ _ => rfl
  have h1 := fun (a b c : Int) w' => rwithin_fn w' a b c
  unfold kindB
  by_cases h0 : l = 0
  · have e0 : (l = 0) = True := eq_true h0
    have h2 := h1 l 1 3
    have h3 := h1 d 1 100
    have hl0 : inB l 1 3 = false := by rw [h0]; rfl
    rw [hl0] at h2
    rw [if_pos h0]
    cases hb : inB d 1 100 with
    | true =>
      rw [hb] at h3
      refine walk [] [] (det0_ok _ _) Tryd.func33 rfl Tryd.ntmps33 res33 (by kernel_rfl) no_facts ?_
      simp (config := { maxSteps := 4000000 }) only [↓sx0, ↓sx1, ↓sx2, ↓sx3, ↓sx4, ↓sx5, ↓sx6, sx0, sx1, sx2, sx3, sx4, sx5, sx6, tf33, ev3_hold, sxo, sxc, sxp, sxq, sxr, sxs, sxl, sxm, simprocAttr, e0, dn]
      refine CallOb.pureH (fun w' hp => h3 w') ?_
      rintro q N rfl
      refine ⟨?_⟩
      simp (config := { maxSteps := 4000000 }) only [↓sx0, ↓sx1, ↓sx2, ↓sx3, ↓sx4, ↓sx5, ↓sx6, sx0, sx1, sx2, sx3, sx4, sx5, sx6, tf33, ev3_hold, sxo, sxc, sxp, sxq, sxr, sxs, sxl, sxm, simprocAttr, e0, dn]
      try rfl
    | false =>
      rw [hb] at h3
      refine walk [] [] (det0_ok _ _) Tryd.func33 rfl Tryd.ntmps33 res33 (by kernel_rfl) no_facts ?_
      simp (config := { maxSteps := 4000000 }) only [↓sx0, ↓sx1, ↓sx2, ↓sx3, ↓sx4, ↓sx5, ↓sx6, sx0, sx1, sx2, sx3, sx4, sx5, sx6, tf33, ev3_hold, sxo, sxc, sxp, sxq, sxr, sxs, sxl, sxm, simprocAttr, e0, dn]
      refine CallOb.pureH (fun w' hp => h3 w') ?_
      rintro q N rfl
      refine ⟨?_⟩
      simp (config := { maxSteps := 4000000 }) only [↓sx0, ↓sx1, ↓sx2, ↓sx3, ↓sx4, ↓sx5, ↓sx6, sx0, sx1, sx2, sx3, sx4, sx5, sx6, tf33, ev3_hold, sxo, sxc, sxp, sxq, sxr, sxs, sxl, sxm, simprocAttr, e0, dn]
      refine CallOb.pureH (fun w' hp => h2 w') ?_
      rintro q N rfl
      refine ⟨?_⟩
      simp (config := { maxSteps := 4000000 }) only [↓sx0, ↓sx1, ↓sx2, ↓sx3, ↓sx4, ↓sx5, ↓sx6, sx0, sx1, sx2, sx3, sx4, sx5, sx6, tf33, ev3_hold, sxo, sxc, sxp, sxq, sxr, sxs, sxl, sxm, simprocAttr, e0, dn]
      try rfl
  · have e0 : (l = 0) = False := eq_false h0
    rw [if_neg h0]
    have h2 := h1 l 1 3
    cases hb : inB l 1 3 with
    | false =>
      rw [hb] at h2
      refine walk [] [] (det0_ok _ _) Tryd.func33 rfl Tryd.ntmps33 res33 (by kernel_rfl) no_facts ?_
      simp (config := { maxSteps := 4000000 }) only [↓sx0, ↓sx1, ↓sx2, ↓sx3, ↓sx4, ↓sx5, ↓sx6, sx0, sx1, sx2, sx3, sx4, sx5, sx6, tf33, ev3_hold, sxo, sxc, sxp, sxq, sxr, sxs, sxl, sxm, simprocAttr, e0, dn]
      refine CallOb.pureH (fun w' hp => h2 w') ?_
      rintro q N rfl
      refine ⟨?_⟩
      simp (config := { maxSteps := 4000000 }) only [↓sx0, ↓sx1, ↓sx2, ↓sx3, ↓sx4, ↓sx5, ↓sx6, sx0, sx1, sx2, sx3, sx4, sx5, sx6, tf33, ev3_hold, sxo, sxc, sxp, sxq, sxr, sxs, sxl, sxm, simprocAttr]
      try rfl
    | true =>
      rw [hb] at h2
      by_cases hd : d = 0
      · have e1 : (d = 0) = True := eq_true hd
        rw [decide_eq_true hd]
        refine walk [] [] (det0_ok _ _) Tryd.func33 rfl Tryd.ntmps33 res33 (by kernel_rfl) no_facts ?_
        simp (config := { maxSteps := 4000000 }) only [↓sx0, ↓sx1, ↓sx2, ↓sx3, ↓sx4, ↓sx5, ↓sx6, sx0, sx1, sx2, sx3, sx4, sx5, sx6, tf33, ev3_hold, sxo, sxc, sxp, sxq, sxr, sxs, sxl, sxm, simprocAttr, e0, dn]
        refine CallOb.pureH (fun w' hp => h2 w') ?_
        rintro q N rfl
        refine ⟨?_⟩
        simp (config := { maxSteps := 4000000 }) only [↓sx0, ↓sx1, ↓sx2, ↓sx3, ↓sx4, ↓sx5, ↓sx6, sx0, sx1, sx2, sx3, sx4, sx5, sx6, tf33, ev3_hold, sxo, sxc, sxp, sxq, sxr, sxs, sxl, sxm, simprocAttr, e1]
        try simp [hd]
      · have e1 : (d = 0) = False := eq_false hd
        rw [decide_eq_false hd]
        refine walk [] [] (det0_ok _ _) Tryd.func33 rfl Tryd.ntmps33 res33 (by kernel_rfl) no_facts ?_
        simp (config := { maxSteps := 4000000 }) only [↓sx0, ↓sx1, ↓sx2, ↓sx3, ↓sx4, ↓sx5, ↓sx6, sx0, sx1, sx2, sx3, sx4, sx5, sx6, tf33, ev3_hold, sxo, sxc, sxp, sxq, sxr, sxs, sxl, sxm, simprocAttr, e0, dn]
        refine CallOb.pureH (fun w' hp => h2 w') ?_
        rintro q N rfl
        refine ⟨?_⟩
        simp (config := { maxSteps := 4000000 }) only [↓sx0, ↓sx1, ↓sx2, ↓sx3, ↓sx4, ↓sx5, ↓sx6, sx0, sx1, sx2, sx3, sx4, sx5, sx6, tf33, ev3_hold, sxo, sxc, sxp, sxq, sxr, sxs, sxl, sxm, simprocAttr, e1]
        try simp [hd]
theorem isTrip_fn (w : World) (v : Value) (c : Cht) (hc : ChOk w v c) (hs : c.small) (hok : c.ok) (t : Trp) : SX.Fn Tryd.prog 14 [v, trv t] w (fun _ => False) fun q N => ∃ b, q = .bool b ∧ (b = true → (0 ≤ t.at_ ∧ t.at_ < (c.tide.length : Int)) ∧ (0 ≤ t.fr ∧ t.fr < (c.depth.length : Int)) ∧ (0 ≤ t.to ∧ t.to < (c.depth.length : Int)) ∧ kindB t.lv t.dr = true) := by
  have dn : ∀ (g : Nat) (xs : List Value), det0 g xs = none := fun _ _ => rfl
  obtain ⟨sD, sT, sS, rfl, hsD, hsT, hsS⟩ := hc
  have hse := hs
  obtain ⟨s1, s2, s3⟩ := hse
  obtain ⟨aT, nT, cT, rfl⟩ := hsT.shape
  have hnT := hsT.le spc_len (by omega)
  subst hnT
  have hti := fun w' => isTick_fn w' c.wide c.high t.at_ sD sS aT c.tide.length cT
  have hcf := fun w' => isCell_fn w' c.wide c.high t.fr sD (.slice aT c.tide.length cT) sS
  have hct := fun w' => isCell_fn w' c.wide c.high t.to sD (.slice aT c.tide.length cT) sS
  have hun := fun w' => runit_fn w' t.lv t.dr
  have hm : wr (c.wide * c.high) = (c.depth.length : Int) := by
    obtain ⟨eW, eH, hW, hH, hlen⟩ := hok.dims
    have := Nat.mul_le_mul hW.2 hH.2
    rw [eW, eH, hlen]
    refine (wrap_id ?_).trans (by push_cast; rfl)
    constructor <;> (have h2 : ((c.W : Int) * (c.H : Int)) = ((c.W * c.H : Nat) : Int) := by push_cast; rfl) <;> omega
  have hm2 : wr ((c.depth.length : Int) - 1) = (c.depth.length : Int) - 1 := wrap_id (by omega)
  have hm3 : wr ((c.tide.length : Int) - 1) = (c.tide.length : Int) - 1 := wrap_id (by omega)
  unfold isCellB at hcf hct
  rw [hm, hm2] at hcf hct
  rw [hm3] at hti
  have i1 := inB_iff t.at_ 0 ((c.tide.length : Int) - 1)
  have i2 := inB_iff t.fr 0 ((c.depth.length : Int) - 1)
  have i3 := inB_iff t.to 0 ((c.depth.length : Int) - 1)
  obtain ⟨ta, tl, td, tt, tf, tg⟩ := t
  unfold trv
  simp only [] at hti hcf hct hun i1 i2 i3 ⊢
  generalize inB ta 0 ((c.tide.length : Int) - 1) = B1 at hti i1
  generalize inB tf 0 ((c.depth.length : Int) - 1) = B2 at hcf i2
  generalize inB tg 0 ((c.depth.length : Int) - 1) = B3 at hct i3
  generalize kindB tl td = B4 at hun ⊢
  refine walk [] [] (det0_ok _ _) Tryd.func14 rfl Tryd.ntmps14 res14 (by kernel_rfl) no_facts ?_
  simp (config := { maxSteps := 4000000 }) only [↓sx0, ↓sx1, ↓sx2, ↓sx3, ↓sx4, ↓sx5, ↓sx6, sx0, sx1, sx2, sx3, sx4, sx5, sx6, tf14, ev3_hold, sxo, sxc, sxp, sxq, sxr, sxs, sxl, sxm, simprocAttr, dn]
  refine CallOb.pureH (fun w' hp => hti w') ?_
  rintro q N rfl
  cases B1 with
  | false =>
    refine ⟨?_⟩
    simp (config := { maxSteps := 4000000 }) only [↓sx0, ↓sx1, ↓sx2, ↓sx3, ↓sx4, ↓sx5, ↓sx6, sx0, sx1, sx2, sx3, sx4, sx5, sx6, tf14, ev3_hold, sxo, sxc, sxp, sxq, sxr, sxs, sxl, sxm, simprocAttr, dn]
    exact ⟨false, rfl, fun h => by cases h⟩
  | true =>
  refine ⟨?_⟩
  simp (config := { maxSteps := 4000000 }) only [↓sx0, ↓sx1, ↓sx2, ↓sx3, ↓sx4, ↓sx5, ↓sx6, sx0, sx1, sx2, sx3, sx4, sx5, sx6, tf14, ev3_hold, sxo, sxc, sxp, sxq, sxr, sxs, sxl, sxm, simprocAttr, dn]
  refine CallOb.pureH (fun w' hp => hcf w') ?_
  rintro q N2 rfl
  cases B2 with
  | false =>
    refine ⟨?_⟩
    simp (config := { maxSteps := 4000000 }) only [↓sx0, ↓sx1, ↓sx2, ↓sx3, ↓sx4, ↓sx5, ↓sx6, sx0, sx1, sx2, sx3, sx4, sx5, sx6, tf14, ev3_hold, sxo, sxc, sxp, sxq, sxr, sxs, sxl, sxm, simprocAttr, dn]
    exact ⟨false, rfl, fun h => by cases h⟩
  | true =>
  refine ⟨?_⟩
  simp (config := { maxSteps := 4000000 }) only [↓sx0, ↓sx1, ↓sx2, ↓sx3, ↓sx4, ↓sx5, ↓sx6, sx0, sx1, sx2, sx3, sx4, sx5, sx6, tf14, ev3_hold, sxo, sxc, sxp, sxq, sxr, sxs, sxl, sxm, simprocAttr, dn]
  refine CallOb.pureH (fun w' hp => hct w') ?_
  rintro q N3 rfl
  cases B3 with
  | false =>
    refine ⟨?_⟩
    simp (config := { maxSteps := 4000000 }) only [↓sx0, ↓sx1, ↓sx2, ↓sx3, ↓sx4, ↓sx5, ↓sx6, sx0, sx1, sx2, sx3, sx4, sx5, sx6, tf14, ev3_hold, sxo, sxc, sxp, sxq, sxr, sxs, sxl, sxm, simprocAttr, dn]
    exact ⟨false, rfl, fun h => by cases h⟩
  | true =>
  refine ⟨?_⟩
  simp (config := { maxSteps := 4000000 }) only [↓sx0, ↓sx1, ↓sx2, ↓sx3, ↓sx4, ↓sx5, ↓sx6, sx0, sx1, sx2, sx3, sx4, sx5, sx6, tf14, ev3_hold, sxo, sxc, sxp, sxq, sxr, sxs, sxl, sxm, simprocAttr, dn]
  refine CallOb.pureH (fun w' hp => hun w') ?_
  rintro q N4 rfl
  refine ⟨?_⟩
  simp (config := { maxSteps := 4000000 }) only [↓sx0, ↓sx1, ↓sx2, ↓sx3, ↓sx4, ↓sx5, ↓sx6, sx0, sx1, sx2, sx3, sx4, sx5, sx6, tf14, ev3_hold, sxo, sxc, sxp, sxq, sxr, sxs, sxl, sxm, simprocAttr, dn]
  have h1 := i1.1 rfl
  have h2 := i2.1 rfl
  have h3 := i3.1 rfl
  exact ⟨B4, rfl, fun h => ⟨by omega, by omega, by omega, h⟩⟩
end Go.Proofs.YtogicfoigeongaaDoor

