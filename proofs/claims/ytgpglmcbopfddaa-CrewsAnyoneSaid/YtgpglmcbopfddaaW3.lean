/- Parts of a proof: the symbolic walk and what it shows of single functions. -/
import Derived.Test.YtgpglmcbopfddaaW2
import Derived.Test.YtgpglmcbopfddaaK5
set_option linter.all false
namespace Go.Proofs.Ytgpglmcbopfddaa
open Go.RowKit Go.SX
set_option maxRecDepth 10000
set_option maxHeartbeats 0
set_option linter.unusedSimpArgs false
set_option linter.unusedVariables false
theorem WhoP.len {s : Stn} {call : Int} {seats : List Int} {len silent t e : Int} {m : List Int} (h : WhoP s call seats len silent t m e) : m.length ≤ s.hands.length := by
  rcases h with ⟨_, _, rfl, _⟩ | ⟨_, ⟨_, _, rfl, _⟩ | ⟨_, h⟩⟩
  · exact Nat.zero_le _
  · exact Nat.zero_le _
  · rcases h.one with ⟨_, rfl, _⟩ | ⟨h1, _⟩
    · exact Nat.zero_le _
    · exact Nat.le_trans h1.1.length_le (uns_len s)
theorem GotE.hp {v : Value} {x : List Int} {N H : List HO} {w0 : Base} {w : World} (h : GotE v x N) (hm : ∀ h ∈ N, h ∈ H) (hp : Hp w0 H w) : Sl w v 1 (ints x) := by
  rcases h with ⟨rfl, rfl⟩ | h
  · exact Sl.nil _ _
  · exact h.hp hm hp
end Go.Proofs.Ytgpglmcbopfddaa

namespace Go.Proofs.Ytgpglmcbopfddaa
open Go.RowKit Go.SX
set_option maxRecDepth 10000
set_option maxHeartbeats 0
set_option linter.unusedSimpArgs false
set_option linter.unusedVariables false
theorem GotE.shape {v : Value} {x : List Int} {N : List HO} (h : GotE v x N) : ∃ a c, v = .slice a x.length c := by
  rcases h with ⟨rfl, rfl⟩ | ⟨a, c, rfl, _⟩
  · exact ⟨none, 0, rfl⟩
  · exact ⟨a, c, rfl⟩
theorem GotE.rdv {v : Value} {x : List Int} {N H : List HO} {w0 : Base} (h : GotE v x N) (hm : ∀ h ∈ N, h ∈ H) : Rdv w0 H v 1 (ints x) := by
  rcases h with ⟨rfl, rfl⟩ | h
  · exact ⟨none, 0, 0, rfl, rfl, fun i x hx => by simp [cat] at hx⟩
  · exact h.rdv hm
theorem uns_nil_lots {s : Stn} {silent : Int} (h : 0 ≤ silent) : lots s silent [] := ⟨List.nil_sublist _, by simpa using h⟩
theorem anyone_ef {s : Stn} {call : Int} {seats : List Int} {len silent t1 t2 e1 e2 : Int} {m1 m2 : List Int} (hE : callE s call seats len = 0) (hs : 0 ≤ silent) (hs2 : silent < 10) (h1 : WhoP s call seats len silent t1 m1 e1) (h2 : WhoP s call seats len (silent + 1) t2 m2 e2) :
    ((e1 = 3 ∧ m1 = [] ∧ ∃ y, lots s silent y ∧ musW s call len seats y = none) ∨ (e1 = 0 ∧ MaxI (musW s call len seats) (lots s silent) t1 m1 ∧ lots s silent m1 ∧ musW s call len seats m1 = some t1)) ∧ (e2 = 0 ∨ e2 = 3) ∧ (e2 = 0 → e1 = 0 ∧ t1 ≤ t2) := by
  have hw1 : whoE s call seats len silent = 0 := by
    unfold whoE
    rw [if_neg, hE]
    rw [(inB_iff _ _ _).2 ⟨by omega, by omega⟩]
    simp
  have hw2 : whoE s call seats len (silent + 1) = 0 := by
    unfold whoE
    rw [if_neg, hE]
    rw [(inB_iff _ _ _).2 ⟨by omega, by omega⟩]
    simp
  have a1 : (e1 = 3 ∧ m1 = [] ∧ ∃ y, lots s silent y ∧ musW s call len seats y = none) ∨ (e1 = 0 ∧ MaxI (musW s call len seats) (lots s silent) t1 m1 ∧ lots s silent m1 ∧ musW s call len seats m1 = some t1) := by
    rcases h1 with ⟨h, _⟩ | ⟨_, ⟨h, _, h3, h4⟩ | ⟨h, h3⟩⟩
    · exact absurd hw1 h
    · exact .inl ⟨h4, h3, h⟩
    · refine .inr ⟨h, h3, ?_⟩
      rcases h3.one with ⟨_, _, h5⟩ | ⟨h5, h6⟩
      · exact absurd (uns_nil_lots hs) (h5 [])
      · exact ⟨h5, h6⟩
  refine ⟨a1, ?_, fun h0 => ?_⟩
  · rcases h2 with ⟨h, _⟩ | ⟨_, ⟨_, _, _, h4⟩ | ⟨h, _⟩⟩
    · exact absurd hw2 h
    · exact .inr h4
    · exact .inl h
  · rcases h2 with ⟨h, _⟩ | ⟨_, ⟨_, _, _, h4⟩ | ⟨_, h⟩⟩
    · exact absurd hw2 h
    · omega
    · have up : ∀ y, lots s silent y → lots s (silent + 1) y := fun y hy => ⟨hy.1, by have := hy.2; omega⟩
      rcases a1 with ⟨_, _, y, h5, h6⟩ | ⟨h5, _, h6, h7⟩
      · obtain ⟨u, h8, _⟩ := h.all y (up y h5)
        rw [h6] at h8
        cases h8
      · obtain ⟨u, h8, h9, _⟩ := h.all m1 (up m1 h6)
        rw [h7] at h8
        cases h8
        exact ⟨h5, h9⟩
theorem mus_without {s : Stn} {call len : Int} {seats y : List Int} (hE : callE s call seats len = 0) : (musW s call len seats y = none ∧ musE (withS s y) call seats len = 3) ∨ ∃ u, musW s call len seats y = some u ∧ musE (withS s y) call seats len = 0 ∧ musT (withS s y) call seats len = u := by
  unfold musE musT musW
  rw [callE_with, hE, if_pos rfl, if_pos rfl]
  cases h : musG (withS s y) call len seats with
  | none => exact .inl ⟨rfl, rfl⟩
  | some p => exact .inr ⟨_, rfl, rfl, rfl⟩
theorem pick_and_sub (p q : Nat → Bool) (n : Nat) : (pick (fun i => p i && q i) n).Sublist (pick q n) := by
  unfold pick
  refine List.Sublist.map _ ?_
  rw [← List.filter_filter]
  exact List.filter_sublist
def pl4_13 : Plan := (ones [0, 1, 3, 4, 5, 6, 7, 8, 2, 9, 10, 11, 12, 13, 14, 15, 16] .fin)
def pl4_24 : Plan := (ones [0, 1, 3, 4, 5, 6, 7, 8, 2, 9, 10, 11, 12, 13, 14, 15, 16] .fin)
def pl4 : List (Nat × Plan) := [(13, pl4_13), (24, pl4_24)]
theorem pl4_lk : (lkO 13 pl4 = some pl4_13) ∧ (lkO 24 pl4 = some pl4_24) ∧ (lkO 11 pl4 = none) := ⟨rfl, rfl, rfl⟩
theorem crewsAnyone_fn (w : World) (v : Value) (s : Stn) (hs : StOk w v s) (call : Int) (vs : Value) (len : Int) (seats : List Int) (hvs : Sl w vs 1 (ints seats)) (silent set : Int) :
    SX.Fn Try.prog 4 [v, .agg #[I call, vs, I len], I silent, I set] w (fun _ => False) fun r N => r = .bool true := by
  have hs0 := hs
  have hvs0 := hvs
  obtain ⟨hv, ps, rfl, hps, hsl, hlg⟩ := hs
  have hpl : ps.length = s.hands.length := by rw [← hps, List.length_map]
  obtain ⟨a, n, c, rfl⟩ := hsl.shape
  have hnp := hsl.le hdc_len (by omega)
  subst hnp
  have hrh := fun H => hsl.rd0 H
  obtain ⟨asx, ns, cs, rfl⟩ := hvs.shape
  have hns := hvs.le i1_len (by omega)
  subst hns
  have hwk := fun (H : List HO) w' (hp : Hp ⟨w, fun _ => False⟩ H w') => works_fn w'
  have dn : ∀ (g : Nat) (xs : List Value), det0 g xs = none := fun _ _ => rfl
  obtain ⟨PP, hPP⟩ : ∃ P : Prop, P ↔ (bigB s = false ∧ loudB seats.length len = false ∧ s.hands.length ≤ 5 ∧ callE s call seats len = 0 ∧ 0 ≤ silent ∧ silent < 10) := ⟨_, Iff.rfl⟩
  refine walkC [3, 11, 32] [] pl4 (det0_ok _ _) Try.func4 rfl Try.ntmps4 res4 (by kernel_rfl) no_facts ?_
  simp (config := { maxSteps := 4000000 }) only [↓sx0, ↓sx1, ↓sx2, ↓sx3, ↓sx4, ↓sx5, ↓sx6, sx0, sx1, sx2, sx3, sx4, sx5, sx6, tf4, ev3_hold, sxo, sxc, sxp, sxq, sxr, sxs, sxl, sxm, simprocAttr, dn]
  refine cut_constH [(24, 54)] (fun b : Bool => [(54, .bool b)]) (fun b H2 => H2 = [] ∧ (b = false → PP)) ?_ ?_
  · refine ⟨?_⟩
    simp (config := { maxSteps := 4000000 }) only [↓sx0, ↓sx1, ↓sx2, ↓sx3, ↓sx4, ↓sx5, ↓sx6, sx0, sx1, sx2, sx3, sx4, sx5, sx6, tf4, ev3_hold, sxo, sxc, sxp, sxq, sxr, sxs, sxl, sxm, simprocAttr, dn]
    refine CallOb.pureH (fun w' hp' => big_fn w' _ s (hs0.hp hp')) ?_
    rintro r N rfl
    cases hB : bigB s with
    | true =>
      refine ⟨?_⟩
      simp (config := { maxSteps := 4000000 }) only [↓sx0, ↓sx1, ↓sx2, ↓sx3, ↓sx4, ↓sx5, ↓sx6, sx0, sx1, sx2, sx3, sx4, sx5, sx6, tf4, ev3_hold, sxo, sxc, sxp, sxq, sxr, sxs, sxl, sxm, simprocAttr, dn]
      exact ⟨true, _, rfl, HImp.nil _ _, rfl, fun h => by cases h⟩
    | false =>
    have hsm := (bigB_false hB).1
    refine ⟨?_⟩
    simp (config := { maxSteps := 4000000 }) only [↓sx0, ↓sx1, ↓sx2, ↓sx3, ↓sx4, ↓sx5, ↓sx6, sx0, sx1, sx2, sx3, sx4, sx5, sx6, tf4, ev3_hold, sxo, sxc, sxp, sxq, sxr, sxs, sxl, sxm, simprocAttr, dn]
    refine CallOb.pureH (fun w' hp' => loud_fn w' call len asx seats.length cs) ?_
    rintro r N2 rfl
    cases hL : loudB seats.length len with
    | true =>
      refine ⟨?_⟩
      simp (config := { maxSteps := 4000000 }) only [↓sx0, ↓sx1, ↓sx2, ↓sx3, ↓sx4, ↓sx5, ↓sx6, sx0, sx1, sx2, sx3, sx4, sx5, sx6, tf4, ev3_hold, sxo, sxc, sxp, sxq, sxr, sxs, sxl, sxm, simprocAttr, dn]
      exact ⟨true, _, rfl, HImp.nil _ _, rfl, fun h => by cases h⟩
    | false =>
    by_cases h5 : (ps.length : Int) > 5
    · have z1 : ((ps.length : Int) > 5) = True := eq_true h5
      refine ⟨?_⟩
      simp (config := { maxSteps := 4000000 }) only [↓sx0, ↓sx1, ↓sx2, ↓sx3, ↓sx4, ↓sx5, ↓sx6, sx0, sx1, sx2, sx3, sx4, sx5, sx6, tf4, ev3_hold, sxo, sxc, sxp, sxq, sxr, sxs, sxl, sxm, simprocAttr, dn, z1]
      exact ⟨true, _, rfl, HImp.nil _ _, rfl, fun h => by cases h⟩
    have z1 : ((ps.length : Int) > 5) = False := eq_false h5
    obtain ⟨E, hE⟩ : ∃ E, callE s call seats len = E := ⟨_, rfl⟩
    refine ⟨?_⟩
    simp (config := { maxSteps := 4000000 }) only [↓sx0, ↓sx1, ↓sx2, ↓sx3, ↓sx4, ↓sx5, ↓sx6, sx0, sx1, sx2, sx3, sx4, sx5, sx6, tf4, ev3_hold, sxo, sxc, sxp, sxq, sxr, sxs, sxl, sxm, simprocAttr, dn, z1]
    refine CallOb.pureH (fun w' hp' => rcseats_fn w' _ s (hs0.hp hp') hsm call _ seats (hvs0.hp (fun _ _ => id) hp') len) ?_
    rintro r N3 rfl
    rw [hE]
    by_cases hE0 : E = 0
    case neg =>
      have z2 : (E = 0) = False := eq_false hE0
      refine ⟨?_⟩
      simp (config := { maxSteps := 4000000 }) only [↓sx0, ↓sx1, ↓sx2, ↓sx3, ↓sx4, ↓sx5, ↓sx6, sx0, sx1, sx2, sx3, sx4, sx5, sx6, tf4, ev3_hold, sxo, sxc, sxp, sxq, sxr, sxs, sxl, sxm, simprocAttr, dn, z2]
      exact ⟨true, _, rfl, HImp.nil _ _, rfl, fun h => by cases h⟩
    have z2 : (E = 0) = True := eq_true hE0
    by_cases h6 : silent < 0
    · have z3 : (silent < 0) = True := eq_true h6
      refine ⟨?_⟩
      simp (config := { maxSteps := 4000000 }) only [↓sx0, ↓sx1, ↓sx2, ↓sx3, ↓sx4, ↓sx5, ↓sx6, sx0, sx1, sx2, sx3, sx4, sx5, sx6, tf4, ev3_hold, sxo, sxc, sxp, sxq, sxr, sxs, sxl, sxm, simprocAttr, dn, z2, z3]
      exact ⟨true, _, rfl, HImp.nil _ _, rfl, fun h => by cases h⟩
    have z3 : (silent < 0) = False := eq_false h6
    by_cases h7 : silent ≥ 10
    · have z4 : (silent ≥ 10) = True := eq_true h7
      refine ⟨?_⟩
      simp (config := { maxSteps := 4000000 }) only [↓sx0, ↓sx1, ↓sx2, ↓sx3, ↓sx4, ↓sx5, ↓sx6, sx0, sx1, sx2, sx3, sx4, sx5, sx6, tf4, ev3_hold, sxo, sxc, sxp, sxq, sxr, sxs, sxl, sxm, simprocAttr, dn, z2, z3, z4]
      exact ⟨true, _, rfl, HImp.nil _ _, rfl, fun h => by cases h⟩
    have z4 : (silent ≥ 10) = False := eq_false h7
    have hp2 := hPP.2 ⟨hB, hL, by omega, hE.trans hE0, by omega, by omega⟩
    refine ⟨?_⟩
    simp (config := { maxSteps := 4000000 }) only [↓sx0, ↓sx1, ↓sx2, ↓sx3, ↓sx4, ↓sx5, ↓sx6, sx0, sx1, sx2, sx3, sx4, sx5, sx6, tf4, ev3_hold, sxo, sxc, sxp, sxq, sxr, sxs, sxl, sxm, simprocAttr, dn, z2, z3, z4]
    exact ⟨false, _, rfl, HImp.nil _ _, rfl, fun _ => hp2⟩
  rintro b H2 g2 ⟨rfl, hb⟩
  cases b with
  | true =>
    refine ⟨?_⟩
    simp (config := { maxSteps := 4000000 }) only [↓sx0, ↓sx1, ↓sx2, ↓sx3, ↓sx4, ↓sx5, ↓sx6, sx0, sx1, sx2, sx3, sx4, sx5, sx6, tf4, ev3_hold, sxo, sxc, sxp, sxq, sxr, sxs, sxl, sxm, simprocAttr, dn]
    refine CallOb.pureH (fun w' hp => hwk _ w' hp) ?_
    rintro rW NW rfl
    refine ⟨?_⟩
    simp (config := { maxSteps := 4000000 }) only [↓sx0, ↓sx1, ↓sx2, ↓sx3, ↓sx4, ↓sx5, ↓sx6, sx0, sx1, sx2, sx3, sx4, sx5, sx6, tf4, ev3_hold, sxo, sxc, sxp, sxq, sxr, sxs, sxl, sxm, simprocAttr]
  | false =>
  obtain ⟨hB, hL, h5, hE, hs0', hs10⟩ := hPP.1 (hb rfl)
  have hsm := (bigB_false hB).1
  have hs20 : seats.length ≤ 20 := (loudB_false hL).2.1
  have w1 : wr (silent + 1) = silent + 1 := wrap_id (by omega)
  have hwh := fun (k : Int) (H : List HO) w' (hp' : Hp ⟨w, fun _ => False⟩ H w') => whoever_fn w' _ s (hs0.hp hp') hsm call _ seats (hvs0.hp (fun _ _ => id) hp') (by omega) len k
  have hwo := fun (vm : Value) (y : List Int) (hyl : y.length ≤ 1000) (H : List HO) w' (hp : Hp ⟨w, fun _ => False⟩ H w') (hvm : Sl w' vm 1 (ints y)) => without_fn w' _ s (hs0.hp hp) hsm vm y hvm hyl
  have hmu := fun (r : Value) (y : List Int) (N H : List HO) (hN : CpN N r (withS s y)) (hm : ∀ h ∈ N, h ∈ H) w' (hp : Hp ⟨w, fun _ => False⟩ H w') => muster1_fn w' r (withS s y) (hN.ok hm hp) (small_with y hsm) call _ seats (hvs0.hp (fun _ _ => id) hp) (by omega) len
  refine ⟨?_⟩
  simp (config := { maxSteps := 4000000 }) only [↓sx0, ↓sx1, ↓sx2, ↓sx3, ↓sx4, ↓sx5, ↓sx6, sx0, sx1, sx2, sx3, sx4, sx5, sx6, tf4, ev3_hold, sxo, sxc, sxp, sxq, sxr, sxs, sxl, sxm, simprocAttr, dn]
  refine CallOb.pureH (fun w' hp' => hwh silent _ w' hp') ?_
  rintro r N3 ⟨t1, v1, m1, e1, rfl, hw1, g1⟩
  refine ⟨?_⟩
  simp (config := { maxSteps := 4000000 }) only [↓sx0, ↓sx1, ↓sx2, ↓sx3, ↓sx4, ↓sx5, ↓sx6, sx0, sx1, sx2, sx3, sx4, sx5, sx6, tf4, ev3_hold, sxo, sxc, sxp, sxq, sxr, sxs, sxl, sxm, simprocAttr, dn, w1]
  refine CallOb.pureH (fun w' hp' => hwh (silent + 1) _ w' hp') ?_
  rintro r N4 ⟨t2, v2, m2, e2, rfl, hw2, g2⟩
  obtain ⟨ha1, ha2, ha3⟩ := anyone_ef hE hs0' hs10 hw1 hw2
  clear hw1 hw2
  obtain ⟨a1, c1, rfl⟩ := g1.shape
  obtain ⟨a2, c2, rfl⟩ := g2.shape
  have hmw := fun y => mus_without (y := y) hE
  obtain ⟨mus, hmus⟩ : ∃ mus, musW s call len seats = mus := ⟨_, rfl⟩
  rw [hmus] at ha1 hmw
  refine ⟨?_⟩
  simp (config := { maxSteps := 4000000 }) only [↓sx0, ↓sx1, ↓sx2, ↓sx3, ↓sx4, ↓sx5, ↓sx6, sx0, sx1, sx2, sx3, sx4, sx5, sx6, tf4, ev3_hold, sxo, sxc, sxp, sxq, sxr, sxs, sxl, sxm, simprocAttr, dn]
  refine cut_constH [(83, 109)] (fun _ : Unit => [(109, .bool false)]) (fun _ H2 => H2 = N4 ++ N3) ?_ ?_
  · rcases ha1 with ⟨h1, _⟩ | ⟨h1, _⟩
    · have h2 : e2 = 3 := by
        rcases ha2 with h | h
        · have := (ha3 h).1; omega
        · exact h
      have z1 : (e1 = 0) = False := eq_false (by omega)
      have z2 : (e1 = 3) = True := eq_true h1
      have z3 : (e2 = 0) = False := eq_false (by omega)
      have z4 : (e2 = 3) = True := eq_true h2
      refine ⟨?_⟩
      simp (config := { maxSteps := 4000000 }) only [↓sx0, ↓sx1, ↓sx2, ↓sx3, ↓sx4, ↓sx5, ↓sx6, sx0, sx1, sx2, sx3, sx4, sx5, sx6, tf4, ev3_hold, sxo, sxc, sxp, sxq, sxr, sxs, sxl, sxm, simprocAttr, z1, z2, z3, z4]
      exact ⟨(), _, HImp.refl _ _, rfl⟩
    · have z1 : (e1 = 0) = True := eq_true h1
      rcases ha2 with h2 | h2
      · have z3 : (e2 = 0) = True := eq_true h2
        have z5 : (t2 < t1) = False := eq_false (by have := (ha3 h2).2; omega)
        refine ⟨?_⟩
        simp (config := { maxSteps := 4000000 }) only [↓sx0, ↓sx1, ↓sx2, ↓sx3, ↓sx4, ↓sx5, ↓sx6, sx0, sx1, sx2, sx3, sx4, sx5, sx6, tf4, ev3_hold, sxo, sxc, sxp, sxq, sxr, sxs, sxl, sxm, simprocAttr, z1, z3, z5]
        exact ⟨(), _, HImp.refl _ _, rfl⟩
      · have z3 : (e2 = 0) = False := eq_false (by omega)
        have z4 : (e2 = 3) = True := eq_true h2
        refine ⟨?_⟩
        simp (config := { maxSteps := 4000000 }) only [↓sx0, ↓sx1, ↓sx2, ↓sx3, ↓sx4, ↓sx5, ↓sx6, sx0, sx1, sx2, sx3, sx4, sx5, sx6, tf4, ev3_hold, sxo, sxc, sxp, sxq, sxr, sxs, sxl, sxm, simprocAttr, z1, z3, z4]
        exact ⟨(), _, HImp.refl _ _, rfl⟩
  rintro _ H5 g5 rfl
  refine ⟨?_⟩
  simp (config := { maxSteps := 4000000 }) only [↓sx0, ↓sx1, ↓sx2, ↓sx3, ↓sx4, ↓sx5, ↓sx6, sx0, sx1, sx2, sx3, sx4, sx5, sx6, tf4, ev3_hold, sxo, sxc, sxp, sxq, sxr, sxs, sxl, sxm, simprocAttr, dn]
  refine cut_constH [(8, 8), (15, 18), (110, 179)] (fun _ : Unit => [(8, .bool false)]) (fun _ H2 => H2 = []) ?_ ?_
  · rcases ha1 with ⟨h1, _⟩ | ⟨h1, hmax, hlo, hmt⟩
    · have z1 : (e1 = 0) = False := eq_false (by omega)
      refine ⟨?_⟩
      simp (config := { maxSteps := 4000000 }) only [↓sx0, ↓sx1, ↓sx2, ↓sx3, ↓sx4, ↓sx5, ↓sx6, sx0, sx1, sx2, sx3, sx4, sx5, sx6, tf4, ev3_hold, sxo, sxc, sxp, sxq, sxr, sxs, sxl, sxm, simprocAttr, z1]
      exact ⟨(), _, HImp.nil _ _, rfl⟩
    have z1 : (e1 = 0) = True := eq_true h1
    have hml : m1.length ≤ 5 := by have := hlo.1.length_le; have := uns_len s; omega
    have hmlt : m1.Pairwise (· < ·) := (uns_lt s).sublist hlo.1
    have hmk : ∀ (j : Nat) y, m1[j]? = some y → ∃ (k : Nat) (p : Hm), y = (k : Int) ∧ ps[k]? = some p ∧ p.1.ans = 0 := fun j y hj => by
      obtain ⟨k, q, h1, h2, h3⟩ := uns_mem (hlo.1.subset (List.mem_of_getElem? hj))
      rw [← hps, List.getElem?_map] at h2
      cases hq : ps[k]? with
      | none => rw [hq] at h2; cases h2
      | some p =>
        rw [hq] at h2
        cases h2
        exact ⟨k, p, h1, hq, h3⟩
    obtain ⟨HN, hHN⟩ : ∃ X, N4 ++ N3 = X := ⟨_, rfl⟩
    have hrm : Rdv ⟨w, fun _ => False⟩ HN (.slice a1 m1.length c1) 1 (ints m1) := g1.rdv fun h hh => by rw [← hHN]; exact List.mem_append_right _ hh
    have hsm1 : ∀ w', Hp ⟨w, fun _ => False⟩ HN w' → Sl w' (.slice a1 m1.length c1) 1 (ints m1) := fun w' hp => g1.hp (fun h hh => by rw [← hHN]; exact List.mem_append_right _ hh) hp
    rw [hHN]
    refine ⟨?_⟩
    simp (config := { maxSteps := 4000000 }) only [↓sx0, ↓sx1, ↓sx2, ↓sx3, ↓sx4, ↓sx5, ↓sx6, sx0, sx1, sx2, sx3, sx4, sx5, sx6, tf4, ev3_hold, sxo, sxc, sxp, sxq, sxr, sxs, sxl, sxm, simprocAttr, z1]
    refine loop_constH HN (HImp.refl _ _) [(8, 8), (15, 15), (112, 152)] (fun i : Nat => [(8, .bool false), (15, I i)]) (fun i H1 => i ≤ m1.length ∧ H1 = HN) (fun i => m1.length - i) 0 ?_ ⟨Nat.zero_le _, rfl⟩ ?_
    · simp (config := { maxSteps := 4000000 }) only [↓sx0, ↓sx1, ↓sx2, ↓sx3, ↓sx4, ↓sx5, ↓sx6, sx0, sx1, sx2, sx3, sx4, sx5, sx6, tf4, ev3_hold, sxo, sxc, sxp, sxq, sxr, sxs, sxl, sxm, simprocAttr]
      try simp
    rintro i HN g1' ⟨hi, rfl⟩
    by_cases hin : i = m1.length
    case neg =>
      have f7 : ((i : Int) < (m1.length : Int)) = True := eq_true (by omega)
      have f8 : wr (i + 1) = ((i + 1 : Nat) : Int) := (wrap_id (by omega)).trans (by omega)
      obtain ⟨y, hy⟩ : ∃ y, m1[i]? = some y := ⟨_, List.getElem?_eq_getElem (by omega)⟩
      obtain ⟨k, p, rfl, hp, h0⟩ := hmk i y hy
      have hkl := (List.getElem?_eq_some_iff.1 hp).1
      have hih := fun w' => isHandN_fn w' a ps.length c s.window s.duty k
      rw [(inB_iff _ _ _).2 ⟨by omega, by rw [show wr ((ps.length : Int) - 1) = (ps.length : Int) - 1 from wrap_id (by omega)]; omega⟩] at hih
      have f9 : ((k : Int) < (ps.length : Int)) = True := eq_true (by omega)
      have f10 : (p.1.ans = 0) = True := eq_true h0
      by_cases hi0 : i = 0
      · have f11 : ((i : Int) > 0) = False := eq_false (by omega)
        refine ⟨?_⟩
        simp (config := { maxSteps := 4000000 }) only [↓sx0, ↓sx1, ↓sx2, ↓sx3, ↓sx4, ↓sx5, ↓sx6, sx0, sx1, sx2, sx3, sx4, sx5, sx6, tf4, ev3_hold, sxo, sxc, sxp, sxq, sxr, sxs, sxl, sxm, simprocAttr, f7, pl4_lk]
        refine amid (at_1 hrm i1_len hy rfl fun ad => ?_)
        simp (config := { maxSteps := 4000000 }) only [↓sx0, ↓sx1, ↓sx2, ↓sx3, ↓sx4, ↓sx5, ↓sx6, sx0, sx1, sx2, sx3, sx4, sx5, sx6, tf4, ev3_hold, sxo, sxc, sxp, sxq, sxr, sxs, sxl, sxm, simprocAttr, dn, pl4_lk]
        refine CallOb.pureH (fun w' hp => hih w') ?_
        rintro q N5 rfl
        have hrm5 : Rdv ⟨w, fun _ => False⟩ (N5 ++ HN) (.slice a1 m1.length c1) 1 (ints m1) := g1.rdv fun h hh => by rw [← hHN]; simp [hh]
        refine ⟨?_⟩
        simp (config := { maxSteps := 4000000 }) only [↓sx0, ↓sx1, ↓sx2, ↓sx3, ↓sx4, ↓sx5, ↓sx6, sx0, sx1, sx2, sx3, sx4, sx5, sx6, tf4, ev3_hold, sxo, sxc, sxp, sxq, sxr, sxs, sxl, sxm, simprocAttr, f7, pl4_lk]
        refine amid (at_1 hrm5 i1_len hy rfl fun ad => ?_)
        simp (config := { maxSteps := 4000000 }) only [↓sx0, ↓sx1, ↓sx2, ↓sx3, ↓sx4, ↓sx5, ↓sx6, sx0, sx1, sx2, sx3, sx4, sx5, sx6, tf4, ev3_hold, sxo, sxc, sxp, sxq, sxr, sxs, sxl, sxm, simprocAttr, f9, pl4_lk]
        refine amid (at_f (hrh _) hdc_len hp (o := 4) (x := I p.1.ans) rfl fun ad => ?_)
        simp (config := { maxSteps := 4000000 }) only [↓sx0, ↓sx1, ↓sx2, ↓sx3, ↓sx4, ↓sx5, ↓sx6, sx0, sx1, sx2, sx3, sx4, sx5, sx6, tf4, ev3_hold, sxo, sxc, sxp, sxq, sxr, sxs, sxl, sxm, simprocAttr, f8, f10, f11, pl4_lk]
        exact ⟨i + 1, _, rfl, HImp.app _ _ _, ⟨by omega, rfl⟩, by omega⟩
      · have f11 : ((i : Int) > 0) = True := eq_true (by omega)
        have f12 : wr ((i : Int) - 1) = ((i - 1 : Nat) : Int) := (wrap_id (by omega)).trans (by omega)
        have f13 : (((i - 1 : Nat) : Int) < (m1.length : Int)) = True := eq_true (by omega)
        obtain ⟨z, hz⟩ : ∃ z, m1[i - 1]? = some z := ⟨_, List.getElem?_eq_getElem (by omega)⟩
        have f14 : ((k : Int) ≤ z) = False := eq_false (by
          have h1 := List.pairwise_iff_getElem.1 hmlt (i - 1) i (by omega) (by omega) (by omega)
          rw [(List.getElem?_eq_some_iff.1 hz).2, (List.getElem?_eq_some_iff.1 hy).2] at h1
          omega)
        refine ⟨?_⟩
        simp (config := { maxSteps := 4000000 }) only [↓sx0, ↓sx1, ↓sx2, ↓sx3, ↓sx4, ↓sx5, ↓sx6, sx0, sx1, sx2, sx3, sx4, sx5, sx6, tf4, ev3_hold, sxo, sxc, sxp, sxq, sxr, sxs, sxl, sxm, simprocAttr, f7, pl4_lk]
        refine amid (at_1 hrm i1_len hy rfl fun ad => ?_)
        simp (config := { maxSteps := 4000000 }) only [↓sx0, ↓sx1, ↓sx2, ↓sx3, ↓sx4, ↓sx5, ↓sx6, sx0, sx1, sx2, sx3, sx4, sx5, sx6, tf4, ev3_hold, sxo, sxc, sxp, sxq, sxr, sxs, sxl, sxm, simprocAttr, dn, pl4_lk]
        refine CallOb.pureH (fun w' hp => hih w') ?_
        rintro q N5 rfl
        have hrm5 : Rdv ⟨w, fun _ => False⟩ (N5 ++ HN) (.slice a1 m1.length c1) 1 (ints m1) := g1.rdv fun h hh => by rw [← hHN]; simp [hh]
        refine ⟨?_⟩
        simp (config := { maxSteps := 4000000 }) only [↓sx0, ↓sx1, ↓sx2, ↓sx3, ↓sx4, ↓sx5, ↓sx6, sx0, sx1, sx2, sx3, sx4, sx5, sx6, tf4, ev3_hold, sxo, sxc, sxp, sxq, sxr, sxs, sxl, sxm, simprocAttr, f7, pl4_lk]
        refine amid (at_1 hrm5 i1_len hy rfl fun ad => ?_)
        simp (config := { maxSteps := 4000000 }) only [↓sx0, ↓sx1, ↓sx2, ↓sx3, ↓sx4, ↓sx5, ↓sx6, sx0, sx1, sx2, sx3, sx4, sx5, sx6, tf4, ev3_hold, sxo, sxc, sxp, sxq, sxr, sxs, sxl, sxm, simprocAttr, f9, pl4_lk]
        refine amid (at_f (hrh _) hdc_len hp (o := 4) (x := I p.1.ans) rfl fun ad => ?_)
        simp (config := { maxSteps := 4000000 }) only [↓sx0, ↓sx1, ↓sx2, ↓sx3, ↓sx4, ↓sx5, ↓sx6, sx0, sx1, sx2, sx3, sx4, sx5, sx6, tf4, ev3_hold, sxo, sxc, sxp, sxq, sxr, sxs, sxl, sxm, simprocAttr, f7, f10, f11, f12, pl4_lk]
        refine amid (at_1 hrm5 i1_len hy rfl fun ad => ?_)
        simp (config := { maxSteps := 4000000 }) only [↓sx0, ↓sx1, ↓sx2, ↓sx3, ↓sx4, ↓sx5, ↓sx6, sx0, sx1, sx2, sx3, sx4, sx5, sx6, tf4, ev3_hold, sxo, sxc, sxp, sxq, sxr, sxs, sxl, sxm, simprocAttr, f12, f13, pl4_lk]
        refine amid (at_1 (k := i - 1) hrm5 i1_len hz rfl fun ad => ?_)
        simp (config := { maxSteps := 4000000 }) only [↓sx0, ↓sx1, ↓sx2, ↓sx3, ↓sx4, ↓sx5, ↓sx6, sx0, sx1, sx2, sx3, sx4, sx5, sx6, tf4, ev3_hold, sxo, sxc, sxp, sxq, sxr, sxs, sxl, sxm, simprocAttr, f8, f14, pl4_lk]
        exact ⟨i + 1, _, rfl, HImp.app _ _ _, ⟨by omega, rfl⟩, by omega⟩
    have f7 : ((i : Int) < (m1.length : Int)) = False := eq_false (by omega)
    have hwo1 := fun w' (hp : Hp ⟨w, fun _ => False⟩ HN w') => hwo (.slice a1 m1.length c1) m1 (by omega) HN w' hp (hsm1 w' hp)
    have hm1 : musE (withS s m1) call seats len = 0 ∧ musT (withS s m1) call seats len = t1 := by
      rcases hmw m1 with ⟨h, _⟩ | ⟨u, h, h2, h3⟩
      · rw [hmt] at h; cases h
      · rw [hmt] at h; cases h; exact ⟨h2, h3⟩
    have hmu1 := fun r N => hmu r m1 N
    rw [hm1.1, hm1.2] at hmu1
    have f15 : ((m1.length : Int) > silent) = False := eq_false (by have := hlo.2; omega)
    refine ⟨?_⟩
    simp (config := { maxSteps := 4000000 }) only [↓sx0, ↓sx1, ↓sx2, ↓sx3, ↓sx4, ↓sx5, ↓sx6, sx0, sx1, sx2, sx3, sx4, sx5, sx6, tf4, ev3_hold, sxo, sxc, sxp, sxq, sxr, sxs, sxl, sxm, simprocAttr, f7, dn, pl4_lk, pl4_13]
    refine CallOb.pureH (fun w' hp => hwo1 w' hp) ?_
    intro r N6 hN6
    refine ⟨?_⟩
    simp (config := { maxSteps := 4000000 }) only [↓sx0, ↓sx1, ↓sx2, ↓sx3, ↓sx4, ↓sx5, ↓sx6, sx0, sx1, sx2, sx3, sx4, sx5, sx6, tf4, ev3_hold, sxo, sxc, sxp, sxq, sxr, sxs, sxl, sxm, simprocAttr, dn, pl4_lk, pl4_13]
    refine CallOb.pureH (fun w' hp => hmu1 r N6 _ hN6 (by simp +contextual) w' hp) ?_
    rintro q N7 ⟨x7, rfl, _⟩
    refine ⟨?_⟩
    simp (config := { maxSteps := 4000000 }) only [↓sx0, ↓sx1, ↓sx2, ↓sx3, ↓sx4, ↓sx5, ↓sx6, sx0, sx1, sx2, sx3, sx4, sx5, sx6, tf4, ev3_hold, sxo, sxc, sxp, sxq, sxr, sxs, sxl, sxm, simprocAttr, f15, pl4_lk, pl4_13]
    exact ⟨(), _, HImp.nil _ _, rfl⟩
  rintro _ H6 g6 rfl
  obtain ⟨bp, hbp⟩ : ∃ bp : Nat → Bool, ∀ i, bp i = decide (bitS .and .i64 (set.fdiv (2 ^ (min i IntKind.i64.bits))) 1 = 1) := ⟨_, fun _ => rfl⟩
  have hA1 := pick_succ (fun i => bp i && (s.hands[i]?).elim false fun h => decide (h.ans = 0))
  have hAs := pick_and_sub bp (fun i => (s.hands[i]?).elim false fun h => decide (h.ans = 0)) s.hands.length
  have hAl : ∀ i, (pick (fun i => bp i && (s.hands[i]?).elim false fun h => decide (h.ans = 0)) i).length ≤ i := fun i => by
    have := (pick_sub (fun i => bp i && (s.hands[i]?).elim false fun h => decide (h.ans = 0)) i).length_le
    rw [idx_len] at this
    exact this
  obtain ⟨A, hA⟩ : ∃ A, pick (fun i => bp i && (s.hands[i]?).elim false fun h => decide (h.ans = 0)) = A := ⟨_, rfl⟩
  have hA0 : A 0 = [] := by rw [← hA]; rfl
  rw [hA] at hA1 hAs hAl
  have hAs : (A ps.length).Sublist (uns s) := by rw [hpl]; exact hAs
  refine ⟨?_⟩
  simp (config := { maxSteps := 4000000 }) only [↓sx0, ↓sx1, ↓sx2, ↓sx3, ↓sx4, ↓sx5, ↓sx6, sx0, sx1, sx2, sx3, sx4, sx5, sx6, tf4, ev3_hold, sxo, sxc, sxp, sxq, sxr, sxs, sxl, sxm, simprocAttr]
  refine loop_constH [HO.row (.slice none 0 0) 3 1 (ints (A 0))] (by rw [hA0]; exact (HImp.nil _ _).trans (HImp.nilRow _ _ _ _)) [(19, 20), (180, 205)] (fun q : Nat × Option Addr × Nat => [(19, .slice q.2.1 (A q.1).length q.2.2), (20, I q.1)])
    (fun q H1 => q.1 ≤ ps.length ∧ (q.2.1 = none → A q.1 = []) ∧ H1 = [HO.row (.slice q.2.1 (A q.1).length q.2.2) 3 1 (ints (A q.1))]) (fun q => ps.length - q.1) (0, none, 0) ?_ ⟨Nat.zero_le _, fun _ => hA0, by simp only []; rw [hA0]; rfl⟩ ?_
  · simp (config := { maxSteps := 4000000 }) only [↓sx0, ↓sx1, ↓sx2, ↓sx3, ↓sx4, ↓sx5, ↓sx6, sx0, sx1, sx2, sx3, sx4, sx5, sx6, tf4, ev3_hold, sxo, sxc, sxp, sxq, sxr, sxs, sxl, sxm, simprocAttr]
    simp [hA0]
  rintro ⟨i, aw, cw⟩ H1 g1' hinv
  simp only [] at hinv
  obtain ⟨hi, haw, rfl⟩ := hinv
  by_cases hin : i = ps.length
  case neg =>
    have f7 : ((i : Int) < (ps.length : Int)) = True := eq_true (by omega)
    have f8 : wr (i + 1) = ((i + 1 : Nat) : Int) := (wrap_id (by omega)).trans (by omega)
    have f9 := u64w (i := i) (by omega)
    obtain ⟨p, hp⟩ : ∃ p, ps[i]? = some p := ⟨_, List.getElem?_eq_getElem (by omega)⟩
    have hA1 := hA1 i
    have hAl := hAl i
    rw [show s.hands[i]? = some p.1 by rw [← hps, List.getElem?_map, hp]; rfl] at hA1
    have hbi := hbp i
    cases hb : bp i with
    | false =>
      rw [hb] at hbi
      have hA1 : A (i + 1) = A i := by simpa [hb] using hA1
      have e3 : (bitS .and .i64 (set.fdiv (2 ^ (min i IntKind.i64.bits))) 1 = 1) = False := eq_false (of_decide_eq_false hbi.symm)
      refine ⟨?_⟩
      simp (config := { maxSteps := 4000000 }) only [↓sx0, ↓sx1, ↓sx2, ↓sx3, ↓sx4, ↓sx5, ↓sx6, sx0, sx1, sx2, sx3, sx4, sx5, sx6, tf4, ev3_hold, sxo, sxc, sxp, sxq, sxr, sxs, sxl, sxm, simprocAttr, f7, f8, f9, e3]
      refine ⟨by omega, (i + 1, aw, cw), _, by simp only []; rw [hA1]; first | exact ⟨rfl, rfl⟩ | exact ⟨rfl, trivial⟩ | rfl | simp, HImp.refl _ _, ⟨by simp only []; omega, by simp only []; rw [hA1]; exact haw, by simp only []; rw [hA1]⟩, by simp only []; omega⟩
    | true =>
    rw [hb] at hbi
    have e3 : (bitS .and .i64 (set.fdiv (2 ^ (min i IntKind.i64.bits))) 1 = 1) = True := eq_true (of_decide_eq_true hbi.symm)
    by_cases h0 : p.1.ans = 0
    · have z0 : (p.1.ans = 0) = True := eq_true h0
      have hA1 : A (i + 1) = A i ++ [(i : Int)] := by simpa [hb, h0] using hA1
      have hAl2 : (A i).length + 1 = (A (i + 1)).length := by rw [hA1, List.length_append]; rfl
      refine ⟨?_⟩
      simp (config := { maxSteps := 4000000 }) only [↓sx0, ↓sx1, ↓sx2, ↓sx3, ↓sx4, ↓sx5, ↓sx6, sx0, sx1, sx2, sx3, sx4, sx5, sx6, tf4, ev3_hold, sxo, sxc, sxp, sxq, sxr, sxs, sxl, sxm, simprocAttr, f7, f8, f9, e3]
      refine ⟨by omega, ?_⟩
      refine amid (at_f (hrh _) hdc_len hp (o := 4) (x := I p.1.ans) rfl fun ad => ?_)
      simp (config := { maxSteps := 4000000 }) only [↓sx0, ↓sx1, ↓sx2, ↓sx3, ↓sx4, ↓sx5, ↓sx6, sx0, sx1, sx2, sx3, sx4, sx5, sx6, tf4, ev3_hold, sxo, sxc, sxp, sxq, sxr, sxs, sxl, sxm, simprocAttr, z0]
      intro b4
      refine app_one (l := A i) (i : Int) (HImp.refl _ _) i1_len i1_one (by omega) fun ad3 c3 => ?_
      rw [hAl2, ← hA1]
      simp (config := { maxSteps := 4000000 }) only [↓sx0, ↓sx1, ↓sx2, ↓sx3, ↓sx4, ↓sx5, ↓sx6, sx0, sx1, sx2, sx3, sx4, sx5, sx6, tf4, ev3_hold, sxo, sxc, sxp, sxq, sxr, sxs, sxl, sxm, simprocAttr, f8]
      exact ⟨(i + 1, some ad3, c3), _, by first | exact ⟨rfl, rfl⟩ | exact ⟨rfl, trivial⟩ | rfl | simp, HImp.refl _ _, ⟨by simp only []; omega, fun h => (by cases h), rfl⟩, by simp only []; omega⟩
    · have z0 : (p.1.ans = 0) = False := eq_false h0
      have hA1 : A (i + 1) = A i := by simpa [hb, h0] using hA1
      refine ⟨?_⟩
      simp (config := { maxSteps := 4000000 }) only [↓sx0, ↓sx1, ↓sx2, ↓sx3, ↓sx4, ↓sx5, ↓sx6, sx0, sx1, sx2, sx3, sx4, sx5, sx6, tf4, ev3_hold, sxo, sxc, sxp, sxq, sxr, sxs, sxl, sxm, simprocAttr, f7, f8, f9, e3]
      refine ⟨by omega, ?_⟩
      refine amid (at_f (hrh _) hdc_len hp (o := 4) (x := I p.1.ans) rfl fun ad => ?_)
      simp (config := { maxSteps := 4000000 }) only [↓sx0, ↓sx1, ↓sx2, ↓sx3, ↓sx4, ↓sx5, ↓sx6, sx0, sx1, sx2, sx3, sx4, sx5, sx6, tf4, ev3_hold, sxo, sxc, sxp, sxq, sxr, sxs, sxl, sxm, simprocAttr, z0, f8]
      exact ⟨(i + 1, aw, cw), _, by simp only []; rw [hA1]; first | exact ⟨rfl, rfl⟩ | exact ⟨rfl, trivial⟩ | rfl | simp, HImp.refl _ _, ⟨by simp only []; omega, by simp only []; rw [hA1]; exact haw, by simp only []; rw [hA1]⟩, by simp only []; omega⟩
  subst hin
  have f7 : ((ps.length : Int) < (ps.length : Int)) = False := eq_false (by omega)
  have hAln := hAl ps.length
  obtain ⟨x, hx⟩ : ∃ x, A ps.length = x := ⟨_, rfl⟩
  rw [hx] at haw hAs hAln ⊢
  by_cases hlong : (x.length : Int) > silent
  · have z1 : ((x.length : Int) > silent) = True := eq_true hlong
    refine ⟨?_⟩
    simp (config := { maxSteps := 4000000 }) only [↓sx0, ↓sx1, ↓sx2, ↓sx3, ↓sx4, ↓sx5, ↓sx6, sx0, sx1, sx2, sx3, sx4, sx5, sx6, tf4, ev3_hold, sxo, sxc, sxp, sxq, sxr, sxs, sxl, sxm, simprocAttr, f7, z1, dn]
    refine CallOb.pureH (fun w' hp => hwk _ w' hp) ?_
    rintro rW NW rfl
    refine ⟨?_⟩
    simp (config := { maxSteps := 4000000 }) only [↓sx0, ↓sx1, ↓sx2, ↓sx3, ↓sx4, ↓sx5, ↓sx6, sx0, sx1, sx2, sx3, sx4, sx5, sx6, tf4, ev3_hold, sxo, sxc, sxp, sxq, sxr, sxs, sxl, sxm, simprocAttr]
    try rfl
  have z1 : ((x.length : Int) > silent) = False := eq_false hlong
  have hlots : lots s silent x := ⟨hAs, by omega⟩
  have hwo2 := fun w' (hp : Hp ⟨w, fun _ => False⟩ [HO.row (.slice aw x.length cw) 3 1 (ints x)] w') => hwo (.slice aw x.length cw) x (by omega) _ w' hp (row_hp List.mem_cons_self hp)
  have hmu2 := fun r N => hmu r x N
  obtain ⟨EE, TT, hEE, hTT, hres⟩ : ∃ EE TT, musE (withS s x) call seats len = EE ∧ musT (withS s x) call seats len = TT ∧ ((EE = 3 ∧ e1 = 3) ∨ (EE = 0 ∧ e1 = 3) ∨ (EE = 0 ∧ e1 = 0 ∧ TT ≤ t1)) := by
    refine ⟨_, _, rfl, rfl, ?_⟩
    rcases hmw x with ⟨h, h2⟩ | ⟨u, h, h2, h3⟩
    · rcases ha1 with ⟨h1, _⟩ | ⟨h1, hmax, _⟩
      · exact .inl ⟨h2, h1⟩
      · obtain ⟨u, h5, _⟩ := hmax.all x hlots
        rw [h] at h5
        cases h5
    · rcases ha1 with ⟨h1, _⟩ | ⟨h1, hmax, _⟩
      · exact .inr (.inl ⟨h2, h1⟩)
      · obtain ⟨u2, h5, h6, _⟩ := hmax.all x hlots
        rw [h] at h5
        cases h5
        exact .inr (.inr ⟨h2, h1, by rw [h3]; exact h6⟩)
  rw [hEE, hTT] at hmu2
  refine ⟨?_⟩
  simp (config := { maxSteps := 4000000 }) only [↓sx0, ↓sx1, ↓sx2, ↓sx3, ↓sx4, ↓sx5, ↓sx6, sx0, sx1, sx2, sx3, sx4, sx5, sx6, tf4, ev3_hold, sxo, sxc, sxp, sxq, sxr, sxs, sxl, sxm, simprocAttr, f7, z1, dn, pl4_lk, pl4_24]
  refine CallOb.pureH (fun w' hp => hwo2 w' hp) ?_
  intro r N6 hN6
  refine ⟨?_⟩
  simp (config := { maxSteps := 4000000 }) only [↓sx0, ↓sx1, ↓sx2, ↓sx3, ↓sx4, ↓sx5, ↓sx6, sx0, sx1, sx2, sx3, sx4, sx5, sx6, tf4, ev3_hold, sxo, sxc, sxp, sxq, sxr, sxs, sxl, sxm, simprocAttr, dn, pl4_lk, pl4_24]
  refine CallOb.pureH (fun w' hp => hmu2 r N6 _ hN6 (by simp +contextual) w' hp) ?_
  rintro q N7 ⟨x7, rfl, _⟩
  rcases hres with ⟨h1, h2⟩ | ⟨h1, h2⟩ | ⟨h1, h2, h3⟩
  · have y1 : (EE = 0) = False := eq_false (by omega)
    have y2 : (EE = 3) = True := eq_true h1
    have y3 : (e1 = 3) = True := eq_true h2
    have y4 : (e1 = 0) = False := eq_false (by omega)
    refine ⟨?_⟩
    simp (config := { maxSteps := 4000000 }) only [↓sx0, ↓sx1, ↓sx2, ↓sx3, ↓sx4, ↓sx5, ↓sx6, sx0, sx1, sx2, sx3, sx4, sx5, sx6, tf4, ev3_hold, sxo, sxc, sxp, sxq, sxr, sxs, sxl, sxm, simprocAttr, y1, y2, y3, y4, dn, pl4_lk, pl4_24]
    refine CallOb.pureH (fun w' hp => hwk _ w' hp) ?_
    rintro rW NW rfl
    refine ⟨?_⟩
    simp (config := { maxSteps := 4000000 }) only [↓sx0, ↓sx1, ↓sx2, ↓sx3, ↓sx4, ↓sx5, ↓sx6, sx0, sx1, sx2, sx3, sx4, sx5, sx6, tf4, ev3_hold, sxo, sxc, sxp, sxq, sxr, sxs, sxl, sxm, simprocAttr]
    try rfl
  · have y1 : (EE = 0) = True := eq_true h1
    have y4 : (e1 = 0) = False := eq_false (by omega)
    refine ⟨?_⟩
    simp (config := { maxSteps := 4000000 }) only [↓sx0, ↓sx1, ↓sx2, ↓sx3, ↓sx4, ↓sx5, ↓sx6, sx0, sx1, sx2, sx3, sx4, sx5, sx6, tf4, ev3_hold, sxo, sxc, sxp, sxq, sxr, sxs, sxl, sxm, simprocAttr, y1, y4, dn, pl4_lk, pl4_24]
    refine CallOb.pureH (fun w' hp => hwk _ w' hp) ?_
    rintro rW NW rfl
    refine ⟨?_⟩
    simp (config := { maxSteps := 4000000 }) only [↓sx0, ↓sx1, ↓sx2, ↓sx3, ↓sx4, ↓sx5, ↓sx6, sx0, sx1, sx2, sx3, sx4, sx5, sx6, tf4, ev3_hold, sxo, sxc, sxp, sxq, sxr, sxs, sxl, sxm, simprocAttr]
    try rfl
  · have y1 : (EE = 0) = True := eq_true h1
    have y4 : (e1 = 0) = True := eq_true h2
    have y5 : (TT ≤ t1) = True := eq_true h3
    refine ⟨?_⟩
    simp (config := { maxSteps := 4000000 }) only [↓sx0, ↓sx1, ↓sx2, ↓sx3, ↓sx4, ↓sx5, ↓sx6, sx0, sx1, sx2, sx3, sx4, sx5, sx6, tf4, ev3_hold, sxo, sxc, sxp, sxq, sxr, sxs, sxl, sxm, simprocAttr, y1, y4, y5, dn, pl4_lk, pl4_24]
    refine CallOb.pureH (fun w' hp => hwk _ w' hp) ?_
    rintro rW NW rfl
    refine ⟨?_⟩
    simp (config := { maxSteps := 4000000 }) only [↓sx0, ↓sx1, ↓sx2, ↓sx3, ↓sx4, ↓sx5, ↓sx6, sx0, sx1, sx2, sx3, sx4, sx5, sx6, tf4, ev3_hold, sxo, sxc, sxp, sxq, sxr, sxs, sxl, sxm, simprocAttr]
    try rfl
end Go.Proofs.Ytgpglmcbopfddaa

