/- A part of a proof: the symbolic walk and what it shows of single functions. -/
import Derived.Test.YtgpglmcbopfddaaW3
set_option linter.all false
namespace Go.Proofs.Ytgpglmcbopfddaa
open Go.RowKit Go.SX
set_option maxRecDepth 10000
set_option maxHeartbeats 0
set_option linter.unusedSimpArgs false
set_option linter.unusedVariables false
theorem RwN.ll {a : Option Addr} {c : Nat} {ps : List Lm} {N H : List HO} {w0 : Base} {w : World} (h : RwN a c ps N) (hm : ∀ g ∈ N, g ∈ H) (hp : Hp w0 H w) : LlOk w (.slice a ps.length c) (ps.map Prod.fst) := by
  refine ⟨ps, rfl, ?_, fun p hp2 => h.sl hm hp hp2⟩
  rcases h.1 with ⟨rfl, rfl⟩ | h
  · exact ⟨none, 0, c, rfl, rfl, fun i x hx => by simp [cat] at hx⟩
  · exact row_hp (hm _ h) hp
theorem RwN.rd1 {a : Option Addr} {c : Nat} {ps : List Lm} {N H : List HO} {w0 : Base} (h : RwN a c ps N) (hm : ∀ g ∈ N, g ∈ H) {p : Lm} (hp : p ∈ ps) {w : World} (hw : ∀ g ∈ N, g.ok w) : Rdv w0 H (lmv p) 1 (ints p.1) := by
  rcases h.2 p hp with rfl | h1
  · exact ⟨none, 0, 0, rfl, rfl, fun i x hx => by simp [nilM, ints, cat] at hx⟩
  · have h5 : Sl w (lmv p) 1 (ints p.1) := RowOk.sl (hw _ h1)
    refine row_rdv (E := 3) (hm _ h1) ⟨p.2.1, p.1.length, p.2.2, rfl, by unfold ints; rw [cat_len i1_len], fun hn => ?_⟩
    obtain ⟨r, a2, c2⟩ := p
    simp only [] at hn
    subst hn
    cases r with
    | nil => rfl
    | cons y ys =>
      obtain ⟨_, _, _, e, _, hcl⟩ := h5
      cases e
      obtain ⟨ad, h6, _⟩ := hcl 0 _ rfl
      cases h6
def pl6_16 : Plan := (ones [0, 1, 2, 3, 4, 5, 6, 7, 8, 9, 10, 11, 12, 13, 14, 15] .fin)
def pl6_17 : Plan := (ones [0, 1, 2, 3, 4, 5, 6, 7, 8, 9, 10, 11, 12, 13, 14, 15, 16, 17, 18, 19] .fin)
def pl6 : List (Nat × Plan) := [(16, pl6_16), (17, pl6_17)]
theorem pl6_lk : (lkO 16 pl6 = some pl6_16) ∧ (lkO 17 pl6 = some pl6_17) := ⟨rfl, rfl⟩
open Classical in
theorem crewsWatched_fn (w : World) (v : Value) (s : Stn) (hs : StOk w v s) (vt : Value) (seats : List Int) (hvt : Sl w vt 1 (ints seats)) (vs : Value) (shifts : List Spn) (hvs : Sl w vs 2 (cat spc shifts)) (vx : Value) (X : List (List Int)) (hX : LlOk w vx X) :
    SX.Fn Try.prog 6 [v, .agg #[vt, vs, vx]] w (fun _ => False) fun r N => r = .bool true := by
  have hs0 := hs
  have hvt0 := hvt
  have hvs0 := hvs
  have hX0 := hX
  obtain ⟨hv, ps, rfl, hps, hsl, hlg⟩ := hs
  obtain ⟨asx, ns, cs, rfl⟩ := hvt.shape
  have hns := hvt.le i1_len (by omega)
  subst hns
  obtain ⟨aS, nS, cS, rfl⟩ := hvs.shape
  have hnS := hvs.le spc_len (by omega)
  subst hnS
  obtain ⟨px, hpx, hslx, hrox⟩ := hX
  have hpxl : px.length = X.length := by rw [← hpx, List.length_map]
  obtain ⟨aX, nX, cX, rfl⟩ := hslx.shape
  have hnX := hslx.le lmc_len (by omega)
  subst hnX
  have hrX := hslx.rd0
  have hwk := fun (H : List HO) w' (hp : Hp ⟨w, fun _ => False⟩ H w') => works_fn w'
  have dn : ∀ (g : Nat) (xs : List Value), det0 g xs = none := fun _ _ => rfl
  obtain ⟨PP, hPP⟩ : ∃ P : Prop, P ↔ (bigB s = false ∧ seats.length ≤ 20 ∧ shifts.length ≤ 20 ∧ chkW s seats shifts = 0) := ⟨_, Iff.rfl⟩
  refine walkC [3] [] pl6 (det0_ok _ _) Try.func6 rfl Try.ntmps6 res6 (by kernel_rfl) no_facts ?_
  simp (config := { maxSteps := 4000000 }) only [↓sx0, ↓sx1, ↓sx2, ↓sx3, ↓sx4, ↓sx5, ↓sx6, sx0, sx1, sx2, sx3, sx4, sx5, sx6, tf6, ev3_hold, sxo, sxc, sxp, sxq, sxr, sxs, sxl, sxm, simprocAttr, dn]
  refine cut_constH [(9, 32)] (fun b : Bool => [(32, .bool b)]) (fun b H2 => H2 = [] ∧ (b = false → PP)) ?_ ?_
  · refine ⟨?_⟩
    simp (config := { maxSteps := 4000000 }) only [↓sx0, ↓sx1, ↓sx2, ↓sx3, ↓sx4, ↓sx5, ↓sx6, sx0, sx1, sx2, sx3, sx4, sx5, sx6, tf6, ev3_hold, sxo, sxc, sxp, sxq, sxr, sxs, sxl, sxm, simprocAttr, dn]
    refine CallOb.pureH (fun w' hp' => big_fn w' _ s (hs0.hp hp')) ?_
    rintro r N rfl
    cases hB : bigB s with
    | true =>
      refine ⟨?_⟩
      simp (config := { maxSteps := 4000000 }) only [↓sx0, ↓sx1, ↓sx2, ↓sx3, ↓sx4, ↓sx5, ↓sx6, sx0, sx1, sx2, sx3, sx4, sx5, sx6, tf6, ev3_hold, sxo, sxc, sxp, sxq, sxr, sxs, sxl, sxm, simprocAttr, dn]
      exact ⟨true, _, rfl, HImp.nil _ _, rfl, fun h => by cases h⟩
    | false =>
    have hsm := (bigB_false hB).1
    refine ⟨?_⟩
    simp (config := { maxSteps := 4000000 }) only [↓sx0, ↓sx1, ↓sx2, ↓sx3, ↓sx4, ↓sx5, ↓sx6, sx0, sx1, sx2, sx3, sx4, sx5, sx6, tf6, ev3_hold, sxo, sxc, sxp, sxq, sxr, sxs, sxl, sxm, simprocAttr, dn]
    refine CallOb.pureH (fun w' hp' => long_fn w' _ seats (hvt0.hp (fun _ _ => id) hp') _ shifts (hvs0.hp (fun _ _ => id) hp')) ?_
    rintro r N2 ⟨bl, rfl, hbl⟩
    cases bl with
    | true =>
      refine ⟨?_⟩
      simp (config := { maxSteps := 4000000 }) only [↓sx0, ↓sx1, ↓sx2, ↓sx3, ↓sx4, ↓sx5, ↓sx6, sx0, sx1, sx2, sx3, sx4, sx5, sx6, tf6, ev3_hold, sxo, sxc, sxp, sxq, sxr, sxs, sxl, sxm, simprocAttr, dn]
      exact ⟨true, _, rfl, HImp.nil _ _, rfl, fun h => by cases h⟩
    | false =>
    obtain ⟨hL1, hL2⟩ := hbl rfl
    refine ⟨?_⟩
    simp (config := { maxSteps := 4000000 }) only [↓sx0, ↓sx1, ↓sx2, ↓sx3, ↓sx4, ↓sx5, ↓sx6, sx0, sx1, sx2, sx3, sx4, sx5, sx6, tf6, ev3_hold, sxo, sxc, sxp, sxq, sxr, sxs, sxl, sxm, simprocAttr, dn]
    refine CallOb.pureH (fun w' hp' => rchkW_fn w' _ s (hs0.hp hp') hsm _ seats (hvt0.hp (fun _ _ => id) hp') _ shifts (hvs0.hp (fun _ _ => id) hp') (by omega)) ?_
    rintro r N3 rfl
    obtain ⟨E, hE⟩ : ∃ E, chkW s seats shifts = E := ⟨_, rfl⟩
    rw [hE] at hPP ⊢
    by_cases hE0 : E = 0
    · have z0 : (E = 0) = True := eq_true hE0
      have hp2 := hPP.2 ⟨hB, hL1, hL2, hE0⟩
      by_cases hX20 : (px.length : Int) > 20
      · have z1 : ((px.length : Int) > 20) = True := eq_true hX20
        refine ⟨?_⟩
        simp (config := { maxSteps := 4000000 }) only [↓sx0, ↓sx1, ↓sx2, ↓sx3, ↓sx4, ↓sx5, ↓sx6, sx0, sx1, sx2, sx3, sx4, sx5, sx6, tf6, ev3_hold, sxo, sxc, sxp, sxq, sxr, sxs, sxl, sxm, simprocAttr, z0, z1, dn]
        exact ⟨true, _, rfl, HImp.nil _ _, rfl, fun h => by cases h⟩
      · have z1 : ((px.length : Int) > 20) = False := eq_false hX20
        refine ⟨?_⟩
        simp (config := { maxSteps := 4000000 }) only [↓sx0, ↓sx1, ↓sx2, ↓sx3, ↓sx4, ↓sx5, ↓sx6, sx0, sx1, sx2, sx3, sx4, sx5, sx6, tf6, ev3_hold, sxo, sxc, sxp, sxq, sxr, sxs, sxl, sxm, simprocAttr, z0, z1, dn]
        exact ⟨false, _, rfl, HImp.nil _ _, rfl, fun _ => hp2⟩
    · have z0 : (E = 0) = False := eq_false hE0
      refine ⟨?_⟩
      simp (config := { maxSteps := 4000000 }) only [↓sx0, ↓sx1, ↓sx2, ↓sx3, ↓sx4, ↓sx5, ↓sx6, sx0, sx1, sx2, sx3, sx4, sx5, sx6, tf6, ev3_hold, sxo, sxc, sxp, sxq, sxr, sxs, sxl, sxm, simprocAttr, z0, dn]
      exact ⟨true, _, rfl, HImp.nil _ _, rfl, fun h => by cases h⟩
  rintro b H2 g2 ⟨rfl, hb⟩
  cases b with
  | true =>
    refine ⟨?_⟩
    simp (config := { maxSteps := 4000000 }) only [↓sx0, ↓sx1, ↓sx2, ↓sx3, ↓sx4, ↓sx5, ↓sx6, sx0, sx1, sx2, sx3, sx4, sx5, sx6, tf6, ev3_hold, sxo, sxc, sxp, sxq, sxr, sxs, sxl, sxm, simprocAttr, dn]
    refine CallOb.pureH (fun w' hp => hwk _ w' hp) ?_
    rintro rW NW rfl
    refine ⟨?_⟩
    simp (config := { maxSteps := 4000000 }) only [↓sx0, ↓sx1, ↓sx2, ↓sx3, ↓sx4, ↓sx5, ↓sx6, sx0, sx1, sx2, sx3, sx4, sx5, sx6, tf6, ev3_hold, sxo, sxc, sxp, sxq, sxr, sxs, sxl, sxm, simprocAttr]
  | false =>
  obtain ⟨hB, hsL, hsS, hE0⟩ := hPP.1 (hb rfl)
  have hsm := (bigB_false hB).1
  obtain ⟨hok, hS4, hsp, hse⟩ := chkW_zero hE0
  obtain ⟨WA, hWA⟩ : ∃ WA, wat s seats shifts (mea seats shifts [] [] + 1) [] [] = WA := ⟨_, rfl⟩
  have hSta : StaP seats shifts [] [] := ⟨Nat.zero_le _, Nat.zero_le _, fun _ => rfl⟩
  have hgood := fun (R : List (List Int)) (h : WA = some R) => wat_good _ _ _ R (hWA.trans h) hSta (GooP.nil s seats shifts)
  have hleast := fun (h : WtsP s seats shifts X) => wat_least h (mea seats shifts [] [] + 1) [] [] ⟨fun i r hi => (by simp at hi), fun j y hy => (by simp at hy)⟩ hSta (Nat.lt_succ_self _)
  rw [hWA] at hleast
  have hEE : watE s seats shifts = if WA.isSome then 0 else 3 := by
    unfold watE
    rw [if_pos hE0, hWA]
    generalize WA = o
    cases o <;> rfl
  have hRR : watR s seats shifts = WA.getD [] := by unfold watR; rw [if_pos hE0, hWA]
  have hsw := fun (vr : Value) (rows : List (List Int)) (H : List HO) w' (hp : Hp ⟨w, fun _ => False⟩ H w') (hr : LlOk w' vr rows) => seatedW_fn w' _ s (hs0.hp hp) hok _ seats (hvt0.hp (fun _ _ => id) hp) hsL _ shifts (hvs0.hp (fun _ _ => id) hp) hsS hsp aX px.length cX vr rows hr
  refine ⟨?_⟩
  simp (config := { maxSteps := 4000000 }) only [↓sx0, ↓sx1, ↓sx2, ↓sx3, ↓sx4, ↓sx5, ↓sx6, sx0, sx1, sx2, sx3, sx4, sx5, sx6, tf6, ev3_hold, sxo, sxc, sxp, sxq, sxr, sxs, sxl, sxm, simprocAttr, dn]
  refine CallOb.pureH (fun w' hp' => Fn.okd (watch_fn w' _ s (hs0.hp hp') hsm _ seats (hvt0.hp (fun _ _ => id) hp') (by omega) _ shifts (hvs0.hp (fun _ _ => id) hp') (by omega))) ?_
  rintro r N4 ⟨h4, h4w⟩
  have h4u := h4.uni h4w
  obtain ⟨a5, c5, p5, rfl, hm5, hr5⟩ := h4u
  have hn5 := hr5.nn h4w
  rw [hRR] at hm5
  rw [hEE]
  cases WA with
  | none =>
    have hXn : ¬ WtsP s seats shifts X := fun h => by
      obtain ⟨R, hR, _⟩ := hleast h
      cases hR
    rw [if_neg (show ¬ ((none : Option (List (List Int))).isSome = true) from fun h => by cases h)]
    refine ⟨?_⟩
    simp (config := { maxSteps := 4000000 }) only [↓sx0, ↓sx1, ↓sx2, ↓sx3, ↓sx4, ↓sx5, ↓sx6, sx0, sx1, sx2, sx3, sx4, sx5, sx6, tf6, ev3_hold, sxo, sxc, sxp, sxq, sxr, sxs, sxl, sxm, simprocAttr, dn]
    refine CallOb.pureH (fun w' hp' => hsw _ X _ w' hp' (hX0.hp hp')) ?_
    rintro r N5 rfl
    rw [decide_eq_false hXn]
    refine ⟨?_⟩
    simp (config := { maxSteps := 4000000 }) only [↓sx0, ↓sx1, ↓sx2, ↓sx3, ↓sx4, ↓sx5, ↓sx6, sx0, sx1, sx2, sx3, sx4, sx5, sx6, tf6, ev3_hold, sxo, sxc, sxp, sxq, sxr, sxs, sxl, sxm, simprocAttr, dn]
    refine CallOb.pureH (fun w' hp => hwk _ w' hp) ?_
    rintro rW NW rfl
    refine ⟨?_⟩
    simp (config := { maxSteps := 4000000 }) only [↓sx0, ↓sx1, ↓sx2, ↓sx3, ↓sx4, ↓sx5, ↓sx6, sx0, sx1, sx2, sx3, sx4, sx5, sx6, tf6, ev3_hold, sxo, sxc, sxp, sxq, sxr, sxs, sxl, sxm, simprocAttr]
  | some R =>
  have hgR := hgood R rfl
  rw [Option.getD_some] at hm5
  have hRl := hgR.len
  have h5l : p5.length = R.length := by rw [← hm5, List.length_map]
  rw [if_pos (show (some R).isSome = true from rfl)]
  refine ⟨?_⟩
  simp (config := { maxSteps := 4000000 }) only [↓sx0, ↓sx1, ↓sx2, ↓sx3, ↓sx4, ↓sx5, ↓sx6, sx0, sx1, sx2, sx3, sx4, sx5, sx6, tf6, ev3_hold, sxo, sxc, sxp, sxq, sxr, sxs, sxl, sxm, simprocAttr, dn]
  refine CallOb.pureH (fun w' hp' => hsw _ R _ w' hp' (by rw [← hm5]; exact hr5.ll (by simp +contextual) hp')) ?_
  rintro r N5 rfl
  rw [decide_eq_true hgR]
  refine ⟨?_⟩
  simp (config := { maxSteps := 4000000 }) only [↓sx0, ↓sx1, ↓sx2, ↓sx3, ↓sx4, ↓sx5, ↓sx6, sx0, sx1, sx2, sx3, sx4, sx5, sx6, tf6, ev3_hold, sxo, sxc, sxp, sxq, sxr, sxs, sxl, sxm, simprocAttr, dn]
  refine CallOb.pureH (fun w' hp' => hsw _ X _ w' hp' (hX0.hp hp')) ?_
  rintro r N6 rfl
  by_cases hXs : WtsP s seats shifts X
  case neg =>
    rw [decide_eq_false hXs]
    refine ⟨?_⟩
    simp (config := { maxSteps := 4000000 }) only [↓sx0, ↓sx1, ↓sx2, ↓sx3, ↓sx4, ↓sx5, ↓sx6, sx0, sx1, sx2, sx3, sx4, sx5, sx6, tf6, ev3_hold, sxo, sxc, sxp, sxq, sxr, sxs, sxl, sxm, simprocAttr, dn]
    refine CallOb.pureH (fun w' hp => hwk _ w' hp) ?_
    rintro rW NW rfl
    refine ⟨?_⟩
    simp (config := { maxSteps := 4000000 }) only [↓sx0, ↓sx1, ↓sx2, ↓sx3, ↓sx4, ↓sx5, ↓sx6, sx0, sx1, sx2, sx3, sx4, sx5, sx6, tf6, ev3_hold, sxo, sxc, sxp, sxq, sxr, sxs, sxl, sxm, simprocAttr]
  rw [decide_eq_true hXs]
  have hLe : LeR R X := by
    obtain ⟨R2, hR2, h⟩ := hleast hXs
    cases hR2
    exact h
  have hXl := hXs.len
  obtain ⟨w5, hw5⟩ := h4w
  refine ⟨?_⟩
  simp (config := { maxSteps := 4000000 }) only [↓sx0, ↓sx1, ↓sx2, ↓sx3, ↓sx4, ↓sx5, ↓sx6, sx0, sx1, sx2, sx3, sx4, sx5, sx6, tf6, ev3_hold, sxo, sxc, sxp, sxq, sxr, sxs, sxl, sxm, simprocAttr, dn]
  refine loop_constH _ (HImp.refl _ _) [(4, 4), (7, 8), (69, 118)] (fun i : Nat => [(7, I i)]) (fun i H1 => i ≤ R.length ∧ (∀ g ∈ N4, g ∈ H1) ∧ ∀ i', i' < i → R[i']? = X[i']?) (fun i => R.length - i) 0 ?_ ⟨Nat.zero_le _, by simp +contextual, fun i' h => by omega⟩ ?_
  · simp (config := { maxSteps := 4000000 }) only [↓sx0, ↓sx1, ↓sx2, ↓sx3, ↓sx4, ↓sx5, ↓sx6, sx0, sx1, sx2, sx3, sx4, sx5, sx6, tf6, ev3_hold, sxo, sxc, sxp, sxq, sxr, sxs, sxl, sxm, simprocAttr]
    try simp
  rintro i H1 gg1 ⟨hi, hg4, hie⟩
  have hd5 := hr5.rdv (w0 := ⟨w, fun _ => False⟩) hg4 hn5
  rw [h5l] at hd5 ⊢
  by_cases hin : i = R.length
  · have e7 : ((i : Int) < (R.length : Int)) = False := eq_false (by omega)
    refine ⟨?_⟩
    simp (config := { maxSteps := 4000000 }) only [↓sx0, ↓sx1, ↓sx2, ↓sx3, ↓sx4, ↓sx5, ↓sx6, sx0, sx1, sx2, sx3, sx4, sx5, sx6, tf6, ev3_hold, sxo, sxc, sxp, sxq, sxr, sxs, sxl, sxm, simprocAttr, e7, dn]
    refine CallOb.pureH (fun w' hp => hwk _ w' hp) ?_
    rintro r N rfl
    refine ⟨?_⟩
    simp (config := { maxSteps := 4000000 }) only [↓sx0, ↓sx1, ↓sx2, ↓sx3, ↓sx4, ↓sx5, ↓sx6, sx0, sx1, sx2, sx3, sx4, sx5, sx6, tf6, ev3_hold, sxo, sxc, sxp, sxq, sxr, sxs, sxl, sxm, simprocAttr]
    try rfl
  have e7 : ((i : Int) < (R.length : Int)) = True := eq_true (by omega)
  have e8 : wr (i + 1) = ((i + 1 : Nat) : Int) := (wrap_id (by omega)).trans (by omega)
  have eX : ((i : Int) < (px.length : Int)) = True := eq_true (by omega)
  obtain ⟨q5, hq5⟩ : ∃ p, p5[i]? = some p := ⟨_, List.getElem?_eq_getElem (by omega)⟩
  obtain ⟨qx, hqx⟩ : ∃ p, px[i]? = some p := ⟨_, List.getElem?_eq_getElem (by omega)⟩
  have he5 : R[i]? = some q5.1 := by rw [← hm5, List.getElem?_map, hq5]; rfl
  have hex : X[i]? = some qx.1 := by rw [← hpx, List.getElem?_map, hqx]; rfl
  have hl5 := (hgR.rws _ (List.mem_of_getElem? he5)).1
  have hlx := (hXs.rws _ (List.mem_of_getElem? hex)).1
  have hra := hr5.rd1 (w0 := ⟨w, fun _ => False⟩) hg4 (List.mem_of_getElem? hq5) hw5
  have hrb := (hrox _ (List.mem_of_getElem? hqx)).rd0
  obtain ⟨r, ar, cr⟩ := q5
  obtain ⟨q, aq, cq⟩ := qx
  simp only [] at he5 hex hl5 hlx
  have hra : Rdv ⟨w, fun _ => False⟩ H1 (.slice ar r.length cr) 1 (ints r) := hra
  have hrb : ∀ H, Rdv ⟨w, fun _ => False⟩ H (.slice aq q.length cq) 1 (ints q) := hrb
  refine ⟨?_⟩
  simp (config := { maxSteps := 4000000 }) only [↓sx0, ↓sx1, ↓sx2, ↓sx3, ↓sx4, ↓sx5, ↓sx6, sx0, sx1, sx2, sx3, sx4, sx5, sx6, tf6, ev3_hold, sxo, sxc, sxp, sxq, sxr, sxs, sxl, sxm, simprocAttr, e7, dn]
  refine loop_constH _ (HImp.refl _ _) [(4, 4), (8, 8), (75, 118)] (fun k : Nat => [(8, I k)]) (fun k H2 => k ≤ r.length ∧ H2 = H1 ∧ ∀ k', k' < k → r[k']? = q[k']?) (fun k => r.length - k) 0 ?_ ⟨Nat.zero_le _, rfl, fun k' h => by omega⟩ ?_
  · simp (config := { maxSteps := 4000000 }) only [↓sx0, ↓sx1, ↓sx2, ↓sx3, ↓sx4, ↓sx5, ↓sx6, sx0, sx1, sx2, sx3, sx4, sx5, sx6, tf6, ev3_hold, sxo, sxc, sxp, sxq, sxr, sxs, sxl, sxm, simprocAttr]
    try simp
  rintro k H2 gg2 ⟨hk, rfl, hke⟩
  by_cases hkn : k = r.length
  · have f7 : ((k : Int) < (r.length : Int)) = False := eq_false (by omega)
    have hrq : r = q := by
      apply List.ext_getElem?
      intro j
      by_cases hj : j < r.length
      · exact hke j (by omega)
      · rw [List.getElem?_eq_none (by omega), List.getElem?_eq_none (by omega)]
    refine ⟨?_⟩
    simp (config := { maxSteps := 4000000 }) only [↓sx0, ↓sx1, ↓sx2, ↓sx3, ↓sx4, ↓sx5, ↓sx6, sx0, sx1, sx2, sx3, sx4, sx5, sx6, tf6, ev3_hold, sxo, sxc, sxp, sxq, sxr, sxs, sxl, sxm, simprocAttr, e7, dn]
    first | refine amid (at_1 hd5 lmc_len hq5 rfl fun ad1 => ?_) | refine at_1 hd5 lmc_len hq5 rfl fun ad1 => ?_
    unfold lmv
    simp (config := { maxSteps := 4000000 }) only [↓sx0, ↓sx1, ↓sx2, ↓sx3, ↓sx4, ↓sx5, ↓sx6, sx0, sx1, sx2, sx3, sx4, sx5, sx6, tf6, ev3_hold, sxo, sxc, sxp, sxq, sxr, sxs, sxl, sxm, simprocAttr, f7, e8, dn]
    exact ⟨i + 1, _, rfl, HImp.refl _ _, ⟨by omega, hg4, fun i' hi' => by
      by_cases e : i' = i
      · rw [e, he5, hex, hrq]
      · exact hie i' (by omega)⟩, by omega⟩
  have f7 : ((k : Int) < (r.length : Int)) = True := eq_true (by omega)
  have f8 : wr (k + 1) = ((k + 1 : Nat) : Int) := (wrap_id (by omega)).trans (by omega)
  have f9 : ((k : Int) < (q.length : Int)) = True := eq_true (by omega)
  obtain ⟨a, ha⟩ : ∃ a, r[k]? = some a := ⟨_, List.getElem?_eq_getElem (by omega)⟩
  obtain ⟨b, hb⟩ : ∃ b, q[k]? = some b := ⟨_, List.getElem?_eq_getElem (by omega)⟩
  by_cases hab : a = b
  · have z1 : (a = b) = True := eq_true hab
    refine ⟨?_⟩
    simp (config := { maxSteps := 4000000 }) only [↓sx0, ↓sx1, ↓sx2, ↓sx3, ↓sx4, ↓sx5, ↓sx6, sx0, sx1, sx2, sx3, sx4, sx5, sx6, tf6, ev3_hold, sxo, sxc, sxp, sxq, sxr, sxs, sxl, sxm, simprocAttr, e7, dn]
    first | refine amid (at_1 hd5 lmc_len hq5 rfl fun ad1 => ?_) | refine at_1 hd5 lmc_len hq5 rfl fun ad1 => ?_
    unfold lmv
    simp (config := { maxSteps := 4000000 }) only [↓sx0, ↓sx1, ↓sx2, ↓sx3, ↓sx4, ↓sx5, ↓sx6, sx0, sx1, sx2, sx3, sx4, sx5, sx6, tf6, ev3_hold, sxo, sxc, sxp, sxq, sxr, sxs, sxl, sxm, simprocAttr, e7, f7, dn, pl6_lk, pl6_16]
    first | refine amid (at_1 hd5 lmc_len hq5 rfl fun ad1 => ?_) | refine at_1 hd5 lmc_len hq5 rfl fun ad1 => ?_
    unfold lmv
    simp (config := { maxSteps := 4000000 }) only [↓sx0, ↓sx1, ↓sx2, ↓sx3, ↓sx4, ↓sx5, ↓sx6, sx0, sx1, sx2, sx3, sx4, sx5, sx6, tf6, ev3_hold, sxo, sxc, sxp, sxq, sxr, sxs, sxl, sxm, simprocAttr, e7, f7, eX, dn]
    first | refine amid (at_1 hra i1_len ha rfl fun ad3 => ?_) | refine at_1 hra i1_len ha rfl fun ad3 => ?_
    simp (config := { maxSteps := 4000000 }) only [↓sx0, ↓sx1, ↓sx2, ↓sx3, ↓sx4, ↓sx5, ↓sx6, sx0, sx1, sx2, sx3, sx4, sx5, sx6, tf6, ev3_hold, sxo, sxc, sxp, sxq, sxr, sxs, sxl, sxm, simprocAttr, e7, f7, eX, dn]
    first | refine amid (at_1 (hrX _) lmc_len hqx rfl fun ad2 => ?_) | refine at_1 (hrX _) lmc_len hqx rfl fun ad2 => ?_
    unfold lmv
    simp (config := { maxSteps := 4000000 }) only [↓sx0, ↓sx1, ↓sx2, ↓sx3, ↓sx4, ↓sx5, ↓sx6, sx0, sx1, sx2, sx3, sx4, sx5, sx6, tf6, ev3_hold, sxo, sxc, sxp, sxq, sxr, sxs, sxl, sxm, simprocAttr, e7, f7, f9, eX, dn]
    first | refine amid (at_1 (hrb _) i1_len hb rfl fun ad4 => ?_) | refine at_1 (hrb _) i1_len hb rfl fun ad4 => ?_
    simp (config := { maxSteps := 4000000 }) only [↓sx0, ↓sx1, ↓sx2, ↓sx3, ↓sx4, ↓sx5, ↓sx6, sx0, sx1, sx2, sx3, sx4, sx5, sx6, tf6, ev3_hold, sxo, sxc, sxp, sxq, sxr, sxs, sxl, sxm, simprocAttr, z1, f8, dn]
    exact ⟨k + 1, _, rfl, HImp.refl _ _, ⟨by omega, rfl, fun k' hk' => by
      by_cases e : k' = k
      · rw [e, ha, hb, hab]
      · exact hke k' (by omega)⟩, by omega⟩
  have z1 : (a = b) = False := eq_false hab
  have hlt := hLe.lt hie he5 hex hke ha hb hab
  have z2 : (a < b) = True := eq_true hlt
  refine ⟨?_⟩
  simp (config := { maxSteps := 4000000 }) only [↓sx0, ↓sx1, ↓sx2, ↓sx3, ↓sx4, ↓sx5, ↓sx6, sx0, sx1, sx2, sx3, sx4, sx5, sx6, tf6, ev3_hold, sxo, sxc, sxp, sxq, sxr, sxs, sxl, sxm, simprocAttr, e7, dn]
  first | refine amid (at_1 hd5 lmc_len hq5 rfl fun ad1 => ?_) | refine at_1 hd5 lmc_len hq5 rfl fun ad1 => ?_
  unfold lmv
  simp (config := { maxSteps := 4000000 }) only [↓sx0, ↓sx1, ↓sx2, ↓sx3, ↓sx4, ↓sx5, ↓sx6, sx0, sx1, sx2, sx3, sx4, sx5, sx6, tf6, ev3_hold, sxo, sxc, sxp, sxq, sxr, sxs, sxl, sxm, simprocAttr, e7, f7, dn, pl6_lk, pl6_16]
  first | refine amid (at_1 hd5 lmc_len hq5 rfl fun ad1 => ?_) | refine at_1 hd5 lmc_len hq5 rfl fun ad1 => ?_
  unfold lmv
  simp (config := { maxSteps := 4000000 }) only [↓sx0, ↓sx1, ↓sx2, ↓sx3, ↓sx4, ↓sx5, ↓sx6, sx0, sx1, sx2, sx3, sx4, sx5, sx6, tf6, ev3_hold, sxo, sxc, sxp, sxq, sxr, sxs, sxl, sxm, simprocAttr, e7, f7, eX, dn]
  first | refine amid (at_1 hra i1_len ha rfl fun ad3 => ?_) | refine at_1 hra i1_len ha rfl fun ad3 => ?_
  simp (config := { maxSteps := 4000000 }) only [↓sx0, ↓sx1, ↓sx2, ↓sx3, ↓sx4, ↓sx5, ↓sx6, sx0, sx1, sx2, sx3, sx4, sx5, sx6, tf6, ev3_hold, sxo, sxc, sxp, sxq, sxr, sxs, sxl, sxm, simprocAttr, e7, f7, eX, dn]
  first | refine amid (at_1 (hrX _) lmc_len hqx rfl fun ad2 => ?_) | refine at_1 (hrX _) lmc_len hqx rfl fun ad2 => ?_
  unfold lmv
  simp (config := { maxSteps := 4000000 }) only [↓sx0, ↓sx1, ↓sx2, ↓sx3, ↓sx4, ↓sx5, ↓sx6, sx0, sx1, sx2, sx3, sx4, sx5, sx6, tf6, ev3_hold, sxo, sxc, sxp, sxq, sxr, sxs, sxl, sxm, simprocAttr, e7, f7, f9, eX, dn]
  first | refine amid (at_1 (hrb _) i1_len hb rfl fun ad4 => ?_) | refine at_1 (hrb _) i1_len hb rfl fun ad4 => ?_
  simp (config := { maxSteps := 4000000 }) only [↓sx0, ↓sx1, ↓sx2, ↓sx3, ↓sx4, ↓sx5, ↓sx6, sx0, sx1, sx2, sx3, sx4, sx5, sx6, tf6, ev3_hold, sxo, sxc, sxp, sxq, sxr, sxs, sxl, sxm, simprocAttr, z1, dn, pl6_lk, pl6_17]
  first | refine amid (at_1 hd5 lmc_len hq5 rfl fun ad1 => ?_) | refine at_1 hd5 lmc_len hq5 rfl fun ad1 => ?_
  unfold lmv
  simp (config := { maxSteps := 4000000 }) only [↓sx0, ↓sx1, ↓sx2, ↓sx3, ↓sx4, ↓sx5, ↓sx6, sx0, sx1, sx2, sx3, sx4, sx5, sx6, tf6, ev3_hold, sxo, sxc, sxp, sxq, sxr, sxs, sxl, sxm, simprocAttr, e7, f7, eX, dn]
  first | refine amid (at_1 hra i1_len ha rfl fun ad3 => ?_) | refine at_1 hra i1_len ha rfl fun ad3 => ?_
  simp (config := { maxSteps := 4000000 }) only [↓sx0, ↓sx1, ↓sx2, ↓sx3, ↓sx4, ↓sx5, ↓sx6, sx0, sx1, sx2, sx3, sx4, sx5, sx6, tf6, ev3_hold, sxo, sxc, sxp, sxq, sxr, sxs, sxl, sxm, simprocAttr, e7, f7, eX, dn]
  first | refine amid (at_1 (hrX _) lmc_len hqx rfl fun ad2 => ?_) | refine at_1 (hrX _) lmc_len hqx rfl fun ad2 => ?_
  unfold lmv
  simp (config := { maxSteps := 4000000 }) only [↓sx0, ↓sx1, ↓sx2, ↓sx3, ↓sx4, ↓sx5, ↓sx6, sx0, sx1, sx2, sx3, sx4, sx5, sx6, tf6, ev3_hold, sxo, sxc, sxp, sxq, sxr, sxs, sxl, sxm, simprocAttr, e7, f7, f9, eX, dn]
  first | refine amid (at_1 (hrb _) i1_len hb rfl fun ad4 => ?_) | refine at_1 (hrb _) i1_len hb rfl fun ad4 => ?_
  simp (config := { maxSteps := 4000000 }) only [↓sx0, ↓sx1, ↓sx2, ↓sx3, ↓sx4, ↓sx5, ↓sx6, sx0, sx1, sx2, sx3, sx4, sx5, sx6, tf6, ev3_hold, sxo, sxc, sxp, sxq, sxr, sxs, sxl, sxm, simprocAttr, z2, dn]
  refine CallOb.pureH (fun w' hp => hwk _ w' hp) ?_
  rintro r N rfl
  refine ⟨?_⟩
  simp (config := { maxSteps := 4000000 }) only [↓sx0, ↓sx1, ↓sx2, ↓sx3, ↓sx4, ↓sx5, ↓sx6, sx0, sx1, sx2, sx3, sx4, sx5, sx6, tf6, ev3_hold, sxo, sxc, sxp, sxq, sxr, sxs, sxl, sxm, simprocAttr]
  try rfl
end Go.Proofs.Ytgpglmcbopfddaa
