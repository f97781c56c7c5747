/- A part of a proof: the symbolic walk and what it shows of single functions. -/
import Derived.Test.YtgpglmcbopfddaaW2
import Derived.Test.YtgpglmcbopfddaaK5
set_option linter.all false
namespace Go.Proofs.Ytgpglmcbopfddaa
open Go.RowKit Go.SX
set_option maxRecDepth 10000
set_option maxHeartbeats 0
set_option linter.unusedSimpArgs false
set_option linter.unusedVariables false
theorem Fn.okd {P : Program} {f : Nat} {args : List Value} {w : World} {X : Nat → Prop} {Post : Value → List HO → Prop} (h : SX.Fn P f args w X Post) : SX.Fn P f args w X fun r N => Post r N ∧ ∃ w', ∀ g ∈ N, g.ok w' :=
  Calls.mono h fun _e w' ⟨v, N, a, b, c, d, e', p⟩ => ⟨v, N, a, b, c, d, e', p, w', c⟩
noncomputable def watE (s : Stn) (seats : List Int) (shifts : List Spn) : Int := if chkW s seats shifts = 0 then (match wat s seats shifts (mea seats shifts [] [] + 1) [] [] with | none => 3 | some _ => 0) else chkW s seats shifts
noncomputable def watR (s : Stn) (seats : List Int) (shifts : List Spn) : List (List Int) := if chkW s seats shifts = 0 then (wat s seats shifts (mea seats shifts [] [] + 1) [] []).getD [] else []
def RwN (a : Option Addr) (c : Nat) (ps : List Lm) (N : List HO) : Prop := ((a = none ∧ ps = []) ∨ HO.row (.slice a ps.length c) 25 1 (cat lmc ps) ∈ N) ∧ ∀ p ∈ ps, p = nilM ∨ HO.row (lmv p) 3 1 (ints p.1) ∈ N
theorem WatP.uni {s : Stn} {seats : List Int} {shifts : List Spn} {r : Value} {N : List HO} (h : WatP s seats shifts r N) (hw : ∃ w', ∀ g ∈ N, HO.ok w' g) : ∃ a c ps, r = .tuple #[.slice a ps.length c, I (watE s seats shifts)] ∧ ps.map Prod.fst = watR s seats shifts ∧ RwN a c ps N := by
  unfold watE watR RwN
  rcases h with ⟨h0, rfl⟩ | ⟨h0, ⟨h1, rfl⟩ | ⟨R, x, ps, h1, rfl, h2, h3, h4⟩⟩
  · rw [if_neg h0, if_neg h0]
    exact ⟨none, 0, [], rfl, rfl, .inl ⟨rfl, rfl⟩, fun p hp => by cases hp⟩
  · rw [if_pos h0, if_pos h0, h1]
    exact ⟨none, 0, [], rfl, rfl, .inl ⟨rfl, rfl⟩, fun p hp => by cases hp⟩
  · rw [if_pos h0, if_pos h0, h1]
    rcases h3 with ⟨rfl, rfl⟩ | h3
    · exact ⟨none, 0, [], rfl, h2, .inl ⟨rfl, rfl⟩, fun p hp => by cases hp⟩
    · obtain ⟨w', hw⟩ := hw
      have h5 : Sl w' x 1 (cat lmc ps) := RowOk.sl (hw _ h3)
      obtain ⟨a, n, c, rfl⟩ := h5.shape
      have hn := h5.le lmc_len (by omega)
      subst hn
      exact ⟨a, c, ps, rfl, h2, .inr h3, h4⟩
theorem RwN.rdv {a : Option Addr} {c : Nat} {ps : List Lm} {N H : List HO} {w0 : Base} (h : RwN a c ps N) (hm : ∀ g ∈ N, g ∈ H) (ha : a = none → ps = []) : Rdv w0 H (.slice a ps.length c) 1 (cat lmc ps) := by
  rcases h.1 with ⟨rfl, rfl⟩ | h
  · exact ⟨none, 0, c, rfl, rfl, fun i x hx => by simp [cat] at hx⟩
  · exact row_rdv (E := 25) (hm _ h) ⟨_, _, _, rfl, by rw [cat_len lmc_len], fun h => by rw [ha h]; rfl⟩
theorem RwN.nn {a : Option Addr} {c : Nat} {ps : List Lm} {N : List HO} (h : RwN a c ps N) (hw : ∃ w', ∀ g ∈ N, HO.ok w' g) : a = none → ps = [] := fun ha => by
  rcases h.1 with ⟨_, h⟩ | h
  · exact h
  · subst ha
    obtain ⟨w', hw⟩ := hw
    have h5 : Sl w' (.slice none ps.length c) 1 (cat lmc ps) := RowOk.sl (hw _ h)
    cases ps with
    | nil => rfl
    | cons p ps =>
      obtain ⟨ad, e⟩ := h5.addr (by rw [cat_len lmc_len]; simp)
      cases e
theorem RwN.sl {a : Option Addr} {c : Nat} {ps : List Lm} {N H : List HO} {w0 : Base} {w : World} (h : RwN a c ps N) (hm : ∀ g ∈ N, g ∈ H) (hp : Hp w0 H w) {p : Lm} (hp2 : p ∈ ps) : Sl w (lmv p) 1 (ints p.1) := by
  rcases h.2 p hp2 with rfl | h
  · exact Sl.nil _ _
  · exact row_hp (hm _ h) hp
theorem watR_len {s : Stn} {seats : List Int} {shifts : List Spn} (h : seats.length ≤ 20) (hs : shifts.length ≤ 20) : (watR s seats shifts).length ≤ 20 ∧ ∀ r ∈ watR s seats shifts, r.length ≤ 20 := by
  unfold watR
  split
  · cases hW : wat s seats shifts (mea seats shifts [] [] + 1) [] [] with
    | none => exact ⟨Nat.zero_le _, fun r hr => by cases hr⟩
    | some R =>
      have h3 := wat_wid _ _ _ R hW (fun r hr => by cases hr) (Nat.zero_le _)
      exact ⟨by rw [Option.getD_some, h3.2]; exact hs, fun r hr => by rw [h3.1 r hr]; exact h⟩
  · exact ⟨Nat.zero_le _, fun r hr => by cases hr⟩
def pl5_10 : Plan := (ones [0, 1, 2, 3, 4, 5, 6, 7, 8, 9] .fin)
def pl5 : List (Nat × Plan) := [(10, pl5_10)]
theorem pl5_lk : (lkO 10 pl5 = some pl5_10) := rfl
theorem crewsWatches_fn (w : World) (v : Value) (s : Stn) (hs : StOk w v s) (vt : Value) (seats : List Int) (hvt : Sl w vt 1 (ints seats)) (vs : Value) (shifts : List Spn) (hvs : Sl w vs 2 (cat spc shifts)) :
    SX.Fn Try.prog 5 [v, vt, vs] w (fun _ => False) fun r N => r = .bool true := by
  have hs0 := hs
  have hvt0 := hvt
  have hvs0 := hvs
  obtain ⟨hv, ps, rfl, hps, hsl, hlg⟩ := hs
  obtain ⟨asx, ns, cs, rfl⟩ := hvt.shape
  have hns := hvt.le i1_len (by omega)
  subst hns
  obtain ⟨aS, nS, cS, rfl⟩ := hvs.shape
  have hnS := hvs.le spc_len (by omega)
  subst hnS
  have hwk := fun (H : List HO) w' (hp : Hp ⟨w, fun _ => False⟩ H w') => works_fn w'
  have dn : ∀ (g : Nat) (xs : List Value), det0 g xs = none := fun _ _ => rfl
  obtain ⟨PP, hPP⟩ : ∃ P : Prop, P ↔ (bigB s = false ∧ seats.length ≤ 20 ∧ shifts.length ≤ 20) := ⟨_, Iff.rfl⟩
  refine walkC [3] [] pl5 (det0_ok _ _) Try.func5 rfl Try.ntmps5 res5 (by kernel_rfl) no_facts ?_
  simp (config := { maxSteps := 4000000 }) only [↓sx0, ↓sx1, ↓sx2, ↓sx3, ↓sx4, ↓sx5, ↓sx6, sx0, sx1, sx2, sx3, sx4, sx5, sx6, tf5, ev3_hold, sxo, sxc, sxp, sxq, sxr, sxs, sxl, sxm, simprocAttr, dn]
  refine cut_constH [(12, 18)] (fun b : Bool => [(18, .bool b)]) (fun b H2 => H2 = [] ∧ (b = false → PP)) ?_ ?_
  · refine ⟨?_⟩
    simp (config := { maxSteps := 4000000 }) only [↓sx0, ↓sx1, ↓sx2, ↓sx3, ↓sx4, ↓sx5, ↓sx6, sx0, sx1, sx2, sx3, sx4, sx5, sx6, tf5, ev3_hold, sxo, sxc, sxp, sxq, sxr, sxs, sxl, sxm, simprocAttr, dn]
    refine CallOb.pureH (fun w' hp' => big_fn w' _ s (hs0.hp hp')) ?_
    rintro r N rfl
    cases hB : bigB s with
    | true =>
      refine ⟨?_⟩
      simp (config := { maxSteps := 4000000 }) only [↓sx0, ↓sx1, ↓sx2, ↓sx3, ↓sx4, ↓sx5, ↓sx6, sx0, sx1, sx2, sx3, sx4, sx5, sx6, tf5, ev3_hold, sxo, sxc, sxp, sxq, sxr, sxs, sxl, sxm, simprocAttr, dn]
      exact ⟨true, _, rfl, HImp.nil _ _, rfl, fun h => by cases h⟩
    | false =>
    refine ⟨?_⟩
    simp (config := { maxSteps := 4000000 }) only [↓sx0, ↓sx1, ↓sx2, ↓sx3, ↓sx4, ↓sx5, ↓sx6, sx0, sx1, sx2, sx3, sx4, sx5, sx6, tf5, ev3_hold, sxo, sxc, sxp, sxq, sxr, sxs, sxl, sxm, simprocAttr, dn]
    refine CallOb.pureH (fun w' hp' => long_fn w' _ seats (hvt0.hp (fun _ _ => id) hp') _ shifts (hvs0.hp (fun _ _ => id) hp')) ?_
    rintro r N2 ⟨bl, rfl, hbl⟩
    refine ⟨?_⟩
    simp (config := { maxSteps := 4000000 }) only [↓sx0, ↓sx1, ↓sx2, ↓sx3, ↓sx4, ↓sx5, ↓sx6, sx0, sx1, sx2, sx3, sx4, sx5, sx6, tf5, ev3_hold, sxo, sxc, sxp, sxq, sxr, sxs, sxl, sxm, simprocAttr, dn]
    exact ⟨bl, _, rfl, HImp.nil _ _, rfl, fun h => hPP.2 ⟨hB, hbl h⟩⟩
  rintro b H2 g2 ⟨rfl, hb⟩
  cases b with
  | true =>
    refine ⟨?_⟩
    simp (config := { maxSteps := 4000000 }) only [↓sx0, ↓sx1, ↓sx2, ↓sx3, ↓sx4, ↓sx5, ↓sx6, sx0, sx1, sx2, sx3, sx4, sx5, sx6, tf5, ev3_hold, sxo, sxc, sxp, sxq, sxr, sxs, sxl, sxm, simprocAttr, dn]
    refine CallOb.pureH (fun w' hp => hwk _ w' hp) ?_
    rintro rW NW rfl
    refine ⟨?_⟩
    simp (config := { maxSteps := 4000000 }) only [↓sx0, ↓sx1, ↓sx2, ↓sx3, ↓sx4, ↓sx5, ↓sx6, sx0, sx1, sx2, sx3, sx4, sx5, sx6, tf5, ev3_hold, sxo, sxc, sxp, sxq, sxr, sxs, sxl, sxm, simprocAttr]
  | false =>
  obtain ⟨hB, hsL, hsS⟩ := hPP.1 (hb rfl)
  have hsm := (bigB_false hB).1
  have hRl := watR_len (s := s) hsL hsS
  refine ⟨?_⟩
  simp (config := { maxSteps := 4000000 }) only [↓sx0, ↓sx1, ↓sx2, ↓sx3, ↓sx4, ↓sx5, ↓sx6, sx0, sx1, sx2, sx3, sx4, sx5, sx6, tf5, ev3_hold, sxo, sxc, sxp, sxq, sxr, sxs, sxl, sxm, simprocAttr, dn]
  refine CallOb.pureH (fun w' hp' => copy_fn w' _ s (hs0.hp hp') hsm) ?_
  rintro r N3 hcp
  have hcp0 := hcp
  obtain ⟨ao, co, ps', rfl, _⟩ := hcp
  refine ⟨?_⟩
  simp (config := { maxSteps := 4000000 }) only [↓sx0, ↓sx1, ↓sx2, ↓sx3, ↓sx4, ↓sx5, ↓sx6, sx0, sx1, sx2, sx3, sx4, sx5, sx6, tf5, ev3_hold, sxo, sxc, sxp, sxq, sxr, sxs, sxl, sxm, simprocAttr, dn]
  intro b0
  refine app_at (f := i1) (l := []) (m := seats) (HImp.refl _ _) i1_len i1_one (fun w' hp' => hvt0.hp (fun _ _ => id) hp') (bytes := 8) (by simp only [List.length_nil]; omega) ?_
  intro ad1 c1 hnil1
  rw [List.nil_append, List.length_nil, Nat.zero_add]
  simp (config := { maxSteps := 4000000 }) only [↓sx0, ↓sx1, ↓sx2, ↓sx3, ↓sx4, ↓sx5, ↓sx6, sx0, sx1, sx2, sx3, sx4, sx5, sx6, tf5, ev3_hold, sxo, sxc, sxp, sxq, sxr, sxs, sxl, sxm, simprocAttr, dn]
  intro b1
  refine app_at (f := spc) (l := []) (m := shifts) (HImp.refl _ _) spc_len spc_one (fun w' hp' => hvs0.hp (fun _ _ => id) hp') (bytes := 16) (by simp only [List.length_nil]; omega) ?_
  intro ad2 c2 hnil2
  rw [List.nil_append, List.length_nil, Nat.zero_add]
  simp (config := { maxSteps := 4000000 }) only [↓sx0, ↓sx1, ↓sx2, ↓sx3, ↓sx4, ↓sx5, ↓sx6, sx0, sx1, sx2, sx3, sx4, sx5, sx6, tf5, ev3_hold, sxo, sxc, sxp, sxq, sxr, sxs, sxl, sxm, simprocAttr, dn]
  refine CallOb.pureH (fun w' hp' => Fn.okd (watch_fn w' _ s (hcp0.ok (by simp +contextual) hp') hsm _ seats (row_hp (E := 3) (by simp) hp') (by omega) _ shifts (row_hp (E := 41) (by simp) hp') (by omega))) ?_
  rintro r N4 ⟨h4, h4w⟩
  have h4u := h4.uni h4w
  obtain ⟨a5, c5, p5, rfl, hm5, hr5⟩ := h4u
  have hn5 := hr5.nn h4w
  refine ⟨?_⟩
  simp (config := { maxSteps := 4000000 }) only [↓sx0, ↓sx1, ↓sx2, ↓sx3, ↓sx4, ↓sx5, ↓sx6, sx0, sx1, sx2, sx3, sx4, sx5, sx6, tf5, ev3_hold, sxo, sxc, sxp, sxq, sxr, sxs, sxl, sxm, simprocAttr, dn]
  refine CallOb.pureH (fun w' hp' => Fn.okd (rwatch_fn w' _ s (hs0.hp hp') hsm _ seats (hvt0.hp (fun _ _ => id) hp') _ shifts (hvs0.hp (fun _ _ => id) hp') (by omega))) ?_
  rintro r N6 ⟨h6, h6w⟩
  have h6u := h6.uni h6w
  obtain ⟨a7, c7, p7, rfl, hm7, hr7⟩ := h6u
  have hn7 := hr7.nn h6w
  obtain ⟨WE, hWE⟩ : ∃ E, watE s seats shifts = E := ⟨_, rfl⟩
  obtain ⟨WR, hWR⟩ : ∃ E, watR s seats shifts = E := ⟨_, rfl⟩
  rw [hWE]
  rw [hWR] at hm5 hm7 hRl
  have hl5 : p5.length = WR.length := by rw [← hm5, List.length_map]
  have hl7 : p7.length = WR.length := by rw [← hm7, List.length_map]
  rw [hl5, hl7]
  refine ⟨?_⟩
  simp (config := { maxSteps := 4000000 }) only [↓sx0, ↓sx1, ↓sx2, ↓sx3, ↓sx4, ↓sx5, ↓sx6, sx0, sx1, sx2, sx3, sx4, sx5, sx6, tf5, ev3_hold, sxo, sxc, sxp, sxq, sxr, sxs, sxl, sxm, simprocAttr, dn]
  refine loop_constH _ (HImp.refl _ _) [(6, 6), (11, 11), (49, 64)] (fun i : Nat => [(11, I i)]) (fun i H1 => i ≤ WR.length ∧ (∀ g ∈ N4, g ∈ H1) ∧ ∀ g ∈ N6, g ∈ H1) (fun i => WR.length - i) 0 ?_ ⟨Nat.zero_le _, by simp +contextual, by simp +contextual⟩ ?_
  · simp (config := { maxSteps := 4000000 }) only [↓sx0, ↓sx1, ↓sx2, ↓sx3, ↓sx4, ↓sx5, ↓sx6, sx0, sx1, sx2, sx3, sx4, sx5, sx6, tf5, ev3_hold, sxo, sxc, sxp, sxq, sxr, sxs, sxl, sxm, simprocAttr]
    try simp
  rintro i H1 gg1 ⟨hi, hg4, hg6⟩
  by_cases hin : i = WR.length
  · have e7 : ((i : Int) < (WR.length : Int)) = False := eq_false (by omega)
    refine ⟨?_⟩
    simp (config := { maxSteps := 4000000 }) only [↓sx0, ↓sx1, ↓sx2, ↓sx3, ↓sx4, ↓sx5, ↓sx6, sx0, sx1, sx2, sx3, sx4, sx5, sx6, tf5, ev3_hold, sxo, sxc, sxp, sxq, sxr, sxs, sxl, sxm, simprocAttr, e7, dn]
    refine CallOb.pureH (fun w' hp => hwk _ w' hp) ?_
    rintro r N rfl
    refine ⟨?_⟩
    simp (config := { maxSteps := 4000000 }) only [↓sx0, ↓sx1, ↓sx2, ↓sx3, ↓sx4, ↓sx5, ↓sx6, sx0, sx1, sx2, sx3, sx4, sx5, sx6, tf5, ev3_hold, sxo, sxc, sxp, sxq, sxr, sxs, sxl, sxm, simprocAttr]
    try rfl
  have e7 : ((i : Int) < (WR.length : Int)) = True := eq_true (by omega)
  have e8 : wr (i + 1) = ((i + 1 : Nat) : Int) := (wrap_id (by omega)).trans (by omega)
  obtain ⟨q5, hq5⟩ : ∃ p, p5[i]? = some p := ⟨_, List.getElem?_eq_getElem (by omega)⟩
  obtain ⟨q7, hq7⟩ : ∃ p, p7[i]? = some p := ⟨_, List.getElem?_eq_getElem (by omega)⟩
  have he5 : WR[i]? = some q5.1 := by rw [← hm5, List.getElem?_map, hq5]; rfl
  have he7 : WR[i]? = some q7.1 := by rw [← hm7, List.getElem?_map, hq7]; rfl
  have he : q5.1 = q7.1 := by rw [he5] at he7; exact Option.some.inj he7
  have hq20 := hRl.2 _ (List.mem_of_getElem? he5)
  have hd5 := hr5.rdv (w0 := ⟨w, fun _ => False⟩) hg4 hn5
  have hd7 := hr7.rdv (w0 := ⟨w, fun _ => False⟩) hg6 hn7
  rw [hl5] at hd5
  rw [hl7] at hd7
  refine ⟨?_⟩
  simp (config := { maxSteps := 4000000 }) only [↓sx0, ↓sx1, ↓sx2, ↓sx3, ↓sx4, ↓sx5, ↓sx6, sx0, sx1, sx2, sx3, sx4, sx5, sx6, tf5, ev3_hold, sxo, sxc, sxp, sxq, sxr, sxs, sxl, sxm, simprocAttr, e7, dn, pl5_lk, pl5_10]
  first | refine amid (at_1 hd5 lmc_len hq5 rfl fun ad8 => ?_) | refine at_1 hd5 lmc_len hq5 rfl fun ad8 => ?_
  simp (config := { maxSteps := 4000000 }) only [↓sx0, ↓sx1, ↓sx2, ↓sx3, ↓sx4, ↓sx5, ↓sx6, sx0, sx1, sx2, sx3, sx4, sx5, sx6, tf5, ev3_hold, sxo, sxc, sxp, sxq, sxr, sxs, sxl, sxm, simprocAttr, e7, dn]
  first | refine amid (at_1 hd7 lmc_len hq7 rfl fun ad9 => ?_) | refine at_1 hd7 lmc_len hq7 rfl fun ad9 => ?_
  simp (config := { maxSteps := 4000000 }) only [↓sx0, ↓sx1, ↓sx2, ↓sx3, ↓sx4, ↓sx5, ↓sx6, sx0, sx1, sx2, sx3, sx4, sx5, sx6, tf5, ev3_hold, sxo, sxc, sxp, sxq, sxr, sxs, sxl, sxm, simprocAttr, e7, dn]
  refine CallOb.pureH (fun w' hp' => same_fn w' _ _ q5.1 q7.1 (hr5.sl hg4 hp' (List.mem_of_getElem? hq5)) (hr7.sl hg6 hp' (List.mem_of_getElem? hq7)) (by omega)) ?_
  rintro r N8 rfl
  rw [decide_eq_true he]
  refine ⟨?_⟩
  simp (config := { maxSteps := 4000000 }) only [↓sx0, ↓sx1, ↓sx2, ↓sx3, ↓sx4, ↓sx5, ↓sx6, sx0, sx1, sx2, sx3, sx4, sx5, sx6, tf5, ev3_hold, sxo, sxc, sxp, sxq, sxr, sxs, sxl, sxm, simprocAttr, e8, dn]
  exact ⟨i + 1, _, rfl, HImp.app _ _ _, ⟨by omega, hg4, hg6⟩, by omega⟩
end Go.Proofs.Ytgpglmcbopfddaa
