/- Parts of a proof: the symbolic walk and what it shows of single functions. -/
import Derived.Test.YtgpglmcbopfddaaW2
import Derived.Test.YtgpglmcbopfddaaK5
set_option linter.all false
namespace Go.Proofs.Ytgpglmcbopfddaa
open Go.RowKit Go.SX
set_option maxRecDepth 10000
set_option maxHeartbeats 0
set_option linter.unusedSimpArgs false
set_option linter.unusedVariables false
theorem WhoP.len {s : Stn} {call : Int} {seats : List Int} {len silent t e : Int} {m : List Int} (h : WhoP s call seats len silent t m e) : m.length ≤ s.hands.length := by
  rcases h with ⟨_, _, rfl, _⟩ | ⟨_, ⟨_, _, rfl, _⟩ | ⟨_, h⟩⟩
  · exact Nat.zero_le _
  · exact Nat.zero_le _
  · rcases h.one with ⟨_, rfl, _⟩ | ⟨h1, _⟩
    · exact Nat.zero_le _
    · exact Nat.le_trans h1.1.length_le (uns_len s)
theorem GotE.hp {v : Value} {x : List Int} {N H : List HO} {w0 : Base} {w : World} (h : GotE v x N) (hm : ∀ h ∈ N, h ∈ H) (hp : Hp w0 H w) : Sl w v 1 (ints x) := by
  rcases h with ⟨rfl, rfl⟩ | h
  · exact Sl.nil _ _
  · exact h.hp hm hp
def pl3_3 : Plan := (ones [0, 2, 5, 6, 8, 10] (.ld 3 (.ld 9 (.pre 4 (ones [1, 4] (.kl 7 (ones [11, 12, 13, 14, 15, 16, 17, 18] .fin)))))))
def pl3 : List (Nat × Plan) := [(3, pl3_3)]
theorem pl3_lk : (lkO 3 pl3 = some pl3_3) := rfl
theorem crewsWhoever_fn (w : World) (v : Value) (s : Stn) (hs : StOk w v s) (call : Int) (vs : Value) (len : Int) (seats : List Int) (hvs : Sl w vs 1 (ints seats)) (silent : Int) :
    SX.Fn Try.prog 3 [v, .agg #[I call, vs, I len], I silent] w (fun _ => False) fun r N => r = .bool true := by
  have hs0 := hs
  have hvs0 := hvs
  obtain ⟨hv, ps, rfl, hps, hsl, hlg⟩ := hs
  have hpl : ps.length = s.hands.length := by rw [← hps, List.length_map]
  obtain ⟨a, n, c, rfl⟩ := hsl.shape
  have hnp := hsl.le hdc_len (by omega)
  subst hnp
  obtain ⟨asx, ns, cs, rfl⟩ := hvs.shape
  have hns := hvs.le i1_len (by omega)
  subst hns
  have hwk := fun (H : List HO) w' (hp : Hp ⟨w, fun _ => False⟩ H w') => works_fn w'
  have dn : ∀ (g : Nat) (xs : List Value), det0 g xs = none := fun _ _ => rfl
  obtain ⟨PP, hPP⟩ : ∃ P : Prop, P ↔ (bigB s = false ∧ loudB seats.length len = false ∧ (s.okB = true → s.hands.length ≤ 5)) := ⟨_, Iff.rfl⟩
  refine walkC [3] [] pl3 (det0_ok _ _) Try.func3 rfl Try.ntmps3 res3 (by kernel_rfl) no_facts ?_
  simp (config := { maxSteps := 4000000 }) only [↓sx0, ↓sx1, ↓sx2, ↓sx3, ↓sx4, ↓sx5, ↓sx6, sx0, sx1, sx2, sx3, sx4, sx5, sx6, tf3, ev3_hold, sxo, sxc, sxp, sxq, sxr, sxs, sxl, sxm, simprocAttr, dn]
  refine cut_constH [(13, 29)] (fun b : Bool => [(29, .bool b)]) (fun b H2 => H2 = [] ∧ (b = false → PP)) ?_ ?_
  · refine ⟨?_⟩
    simp (config := { maxSteps := 4000000 }) only [↓sx0, ↓sx1, ↓sx2, ↓sx3, ↓sx4, ↓sx5, ↓sx6, sx0, sx1, sx2, sx3, sx4, sx5, sx6, tf3, ev3_hold, sxo, sxc, sxp, sxq, sxr, sxs, sxl, sxm, simprocAttr, dn]
    refine CallOb.pureH (fun w' hp' => big_fn w' _ s (hs0.hp hp')) ?_
    rintro r N rfl
    cases hB : bigB s with
    | true =>
      refine ⟨?_⟩
      simp (config := { maxSteps := 4000000 }) only [↓sx0, ↓sx1, ↓sx2, ↓sx3, ↓sx4, ↓sx5, ↓sx6, sx0, sx1, sx2, sx3, sx4, sx5, sx6, tf3, ev3_hold, sxo, sxc, sxp, sxq, sxr, sxs, sxl, sxm, simprocAttr, dn]
      exact ⟨true, _, rfl, HImp.nil _ _, rfl, fun h => by cases h⟩
    | false =>
    have hsm := (bigB_false hB).1
    refine ⟨?_⟩
    simp (config := { maxSteps := 4000000 }) only [↓sx0, ↓sx1, ↓sx2, ↓sx3, ↓sx4, ↓sx5, ↓sx6, sx0, sx1, sx2, sx3, sx4, sx5, sx6, tf3, ev3_hold, sxo, sxc, sxp, sxq, sxr, sxs, sxl, sxm, simprocAttr, dn]
    refine CallOb.pureH (fun w' hp' => loud_fn w' call len asx seats.length cs) ?_
    rintro r N2 rfl
    cases hL : loudB seats.length len with
    | true =>
      refine ⟨?_⟩
      simp (config := { maxSteps := 4000000 }) only [↓sx0, ↓sx1, ↓sx2, ↓sx3, ↓sx4, ↓sx5, ↓sx6, sx0, sx1, sx2, sx3, sx4, sx5, sx6, tf3, ev3_hold, sxo, sxc, sxp, sxq, sxr, sxs, sxl, sxm, simprocAttr, dn]
      exact ⟨true, _, rfl, HImp.nil _ _, rfl, fun h => by cases h⟩
    | false =>
    refine ⟨?_⟩
    simp (config := { maxSteps := 4000000 }) only [↓sx0, ↓sx1, ↓sx2, ↓sx3, ↓sx4, ↓sx5, ↓sx6, sx0, sx1, sx2, sx3, sx4, sx5, sx6, tf3, ev3_hold, sxo, sxc, sxp, sxq, sxr, sxs, sxl, sxm, simprocAttr, dn]
    refine CallOb.pureH (fun w' hp' => rcheck_fn w' _ s (hs0.hp hp') hsm) ?_
    rintro r N3 rfl
    cases hO : s.okB with
    | false =>
      have hp2 := hPP.2 ⟨hB, hL, fun h => by rw [hO] at h; cases h⟩
      refine ⟨?_⟩
      simp (config := { maxSteps := 4000000 }) only [↓sx0, ↓sx1, ↓sx2, ↓sx3, ↓sx4, ↓sx5, ↓sx6, sx0, sx1, sx2, sx3, sx4, sx5, sx6, tf3, ev3_hold, sxo, sxc, sxp, sxq, sxr, sxs, sxl, sxm, simprocAttr, dn]
      exact ⟨false, _, rfl, HImp.nil _ _, rfl, fun _ => hp2⟩
    | true =>
      by_cases h5 : (ps.length : Int) > 5
      · have z1 : ((ps.length : Int) > 5) = True := eq_true h5
        refine ⟨?_⟩
        simp (config := { maxSteps := 4000000 }) only [↓sx0, ↓sx1, ↓sx2, ↓sx3, ↓sx4, ↓sx5, ↓sx6, sx0, sx1, sx2, sx3, sx4, sx5, sx6, tf3, ev3_hold, sxo, sxc, sxp, sxq, sxr, sxs, sxl, sxm, simprocAttr, dn, z1]
        exact ⟨true, _, rfl, HImp.nil _ _, rfl, fun h => by cases h⟩
      · have z1 : ((ps.length : Int) > 5) = False := eq_false h5
        have hp2 := hPP.2 ⟨hB, hL, fun _ => by omega⟩
        refine ⟨?_⟩
        simp (config := { maxSteps := 4000000 }) only [↓sx0, ↓sx1, ↓sx2, ↓sx3, ↓sx4, ↓sx5, ↓sx6, sx0, sx1, sx2, sx3, sx4, sx5, sx6, tf3, ev3_hold, sxo, sxc, sxp, sxq, sxr, sxs, sxl, sxm, simprocAttr, dn, z1]
        exact ⟨false, _, rfl, HImp.nil _ _, rfl, fun _ => hp2⟩
  rintro b H2 g2 ⟨rfl, hb⟩
  cases b with
  | true =>
    refine ⟨?_⟩
    simp (config := { maxSteps := 4000000 }) only [↓sx0, ↓sx1, ↓sx2, ↓sx3, ↓sx4, ↓sx5, ↓sx6, sx0, sx1, sx2, sx3, sx4, sx5, sx6, tf3, ev3_hold, sxo, sxc, sxp, sxq, sxr, sxs, sxl, sxm, simprocAttr, dn]
    refine CallOb.pureH (fun w' hp => hwk _ w' hp) ?_
    rintro rW NW rfl
    refine ⟨?_⟩
    simp (config := { maxSteps := 4000000 }) only [↓sx0, ↓sx1, ↓sx2, ↓sx3, ↓sx4, ↓sx5, ↓sx6, sx0, sx1, sx2, sx3, sx4, sx5, sx6, tf3, ev3_hold, sxo, sxc, sxp, sxq, sxr, sxs, sxl, sxm, simprocAttr]
  | false =>
  obtain ⟨hB, hL, h5⟩ := hPP.1 (hb rfl)
  have hsm := (bigB_false hB).1
  have hs20 : seats.length ≤ 20 := (loudB_false hL).2.1
  refine ⟨?_⟩
  simp (config := { maxSteps := 4000000 }) only [↓sx0, ↓sx1, ↓sx2, ↓sx3, ↓sx4, ↓sx5, ↓sx6, sx0, sx1, sx2, sx3, sx4, sx5, sx6, tf3, ev3_hold, sxo, sxc, sxp, sxq, sxr, sxs, sxl, sxm, simprocAttr, dn, pl3_lk, pl3_3]
  refine CallOb.pureH (fun w' hp' => copy_fn w' _ s (hs0.hp hp') hsm) ?_
  rintro r N3 hcp
  have hcp0 := hcp
  obtain ⟨ao, co, ps', rfl, _⟩ := hcp
  refine ⟨?_⟩
  simp (config := { maxSteps := 4000000 }) only [↓sx0, ↓sx1, ↓sx2, ↓sx3, ↓sx4, ↓sx5, ↓sx6, sx0, sx1, sx2, sx3, sx4, sx5, sx6, tf3, ev3_hold, sxo, sxc, sxp, sxq, sxr, sxs, sxl, sxm, simprocAttr, dn, pl3_lk, pl3_3]
  intro b0
  refine app_at (f := i1) (l := []) (m := seats) (HImp.refl _ _) i1_len i1_one (fun w' hp' => hvs0.hp (fun _ _ => id) hp') (bytes := 8) (by simp only [List.length_nil]; omega) ?_
  intro ad c2 hnil
  rw [List.nil_append, List.length_nil, Nat.zero_add]
  simp (config := { maxSteps := 4000000 }) only [↓sx0, ↓sx1, ↓sx2, ↓sx3, ↓sx4, ↓sx5, ↓sx6, sx0, sx1, sx2, sx3, sx4, sx5, sx6, tf3, ev3_hold, sxo, sxc, sxp, sxq, sxr, sxs, sxl, sxm, simprocAttr, dn, pl3_lk, pl3_3]
  refine CallOb.pureH (fun w' hp' => whoever_fn w' _ s (hcp0.ok (by simp +contextual) hp') hsm call _ seats (row_hp (E := 3) (by simp) hp') (by omega) len silent) ?_
  rintro r N4 ⟨t1, v1, m1, e1, rfl, hw1, g1⟩
  refine ⟨?_⟩
  simp (config := { maxSteps := 4000000 }) only [↓sx0, ↓sx1, ↓sx2, ↓sx3, ↓sx4, ↓sx5, ↓sx6, sx0, sx1, sx2, sx3, sx4, sx5, sx6, tf3, ev3_hold, sxo, sxc, sxp, sxq, sxr, sxs, sxl, sxm, simprocAttr, dn, pl3_lk, pl3_3]
  refine CallOb.pureH (fun w' hp' => rwho_fn w' _ s (hs0.hp hp') hsm h5 call _ seats (hvs0.hp (fun _ _ => id) hp') len silent) ?_
  rintro r N5 ⟨t2, v2, m2, e2, rfl, hw2, g2⟩
  have hml := hw1.len
  obtain ⟨q1, q2, q3⟩ := hw1.uniq hw2
  rw [← q2] at g2
  rw [← q1, ← q3]
  clear hw1 hw2 q1 q2 q3
  refine ⟨?_⟩
  simp (config := { maxSteps := 4000000 }) only [↓sx0, ↓sx1, ↓sx2, ↓sx3, ↓sx4, ↓sx5, ↓sx6, sx0, sx1, sx2, sx3, sx4, sx5, sx6, tf3, ev3_hold, sxo, sxc, sxp, sxq, sxr, sxs, sxl, sxm, simprocAttr, dn]
  refine CallOb.pureH (fun w' hp' => same_fn w' _ _ m1 m1 (g1.hp (by simp +contextual) hp') (g2.hp (by simp +contextual) hp') (by have := hsm.1; omega)) ?_
  rintro r N6 rfl
  rw [decide_eq_true rfl]
  refine ⟨?_⟩
  simp (config := { maxSteps := 4000000 }) only [↓sx0, ↓sx1, ↓sx2, ↓sx3, ↓sx4, ↓sx5, ↓sx6, sx0, sx1, sx2, sx3, sx4, sx5, sx6, tf3, ev3_hold, sxo, sxc, sxp, sxq, sxr, sxs, sxl, sxm, simprocAttr, dn]
  refine CallOb.pureH (fun w' hp => hwk _ w' hp) ?_
  rintro rW NW rfl
  refine ⟨?_⟩
  simp (config := { maxSteps := 4000000 }) only [↓sx0, ↓sx1, ↓sx2, ↓sx3, ↓sx4, ↓sx5, ↓sx6, sx0, sx1, sx2, sx3, sx4, sx5, sx6, tf3, ev3_hold, sxo, sxc, sxp, sxq, sxr, sxs, sxl, sxm, simprocAttr]
end Go.Proofs.Ytgpglmcbopfddaa

