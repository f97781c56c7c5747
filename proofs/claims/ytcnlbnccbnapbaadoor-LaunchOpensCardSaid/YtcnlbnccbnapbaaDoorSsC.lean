/- A part of a proof: the symbolic walk and what it shows of single functions. -/
import Derived.Test.YtcnlbnccbnapbaaDoorSsB
import Derived.Test.YtcnlbnccbnapbaaDoorR1
import Derived.Test.YtcnlbnccbnapbaaDoorP8
set_option linter.all false
namespace Go.Proofs.YtcnlbnccbnapbaaDoor
open Go.RowKit Go.SX
set_option maxRecDepth 10000
set_option maxHeartbeats 0
set_option linter.unusedSimpArgs false
set_option linter.unusedVariables false
noncomputable def opL (c : Cht) (b : Cls) (r : Rmp) : List (Int × Int) := if staE c b r 0 0 = 0 then winL (rdyB c b r) c.tide.length else []
noncomputable def reL (c : Cht) (b : Cls) (r : Rmp) (t : Int) : List Int := if staE c b r t 0 = 0 then reachL c b r t.toNat else []
theorem opens_got {c : Cht} {b : Cls} {r : Rmp} {q : Value} {N : List HO} (h : OpensP c b r q N) : ∃ x, q = .tuple #[x, I (staE c b r 0 0)] ∧ Got x 54 2 spc (opL c b r) N := by
  unfold opL
  rcases h with ⟨h1, rfl⟩ | ⟨h1, x, rfl, h2⟩
  · rw [if_neg h1]
    exact ⟨_, rfl, Got.nil _⟩
  · rw [if_pos h1, h1]
    exact ⟨x, rfl, h2⟩
theorem reach_got {c : Cht} {b : Cls} {r : Rmp} {t : Int} {q : Value} {N : List HO} (h : ReachP c b r t q N) : ∃ x, q = .tuple #[x, I (staE c b r t 0)] ∧ Got x 3 1 i1 (reL c b r t) N := by
  unfold reL
  rcases h with ⟨h1, rfl⟩ | ⟨h1, x, rfl, h2⟩
  · rw [if_neg h1]
    exact ⟨_, rfl, Got.nil _⟩
  · rw [if_pos h1, h1]
    exact ⟨x, rfl, h2⟩
theorem launchOpens_fn (w : World) (hw : Ways w) (v : Value) (c : Cht) (hc : ChOk w v c) (b : Cls) (o : Ord5) :
    SX.Fn Tryd.prog 8 [v, clv b, orv o] w (fun _ => False) fun r N => r = .bool true := by
  have hc0 := hc
  have hwk := fun (H : List HO) w' (hp : Hp ⟨w, fun _ => False⟩ H w') => works5_fn w' (hw.hp hp)
  obtain ⟨r, t, f, tc, ts⟩ := o
  obtain ⟨sD, sT, sS, rfl, hsD, hsT, hsS⟩ := hc
  have dq := detL_eq
  have dn : (∀ xs, detL 14 xs = none) ∧ (∀ xs, detL 15 xs = none) ∧ (∀ xs, detL 17 xs = none) ∧ (∀ xs, detL 28 xs = none) ∧ (∀ xs, detL 32 xs = none) ∧ (∀ xs, detL 29 xs = none) ∧ (∀ xs, detL 33 xs = none) ∧ (∀ xs, detL 23 xs = none) := ⟨fun _ => rfl, fun _ => rfl, fun _ => rfl, fun _ => rfl, fun _ => rfl, fun _ => rfl, fun _ => rfl, fun _ => rfl⟩
  unfold clv orv
  refine walk [] [(6, (.ld 0 (.ld 2 (ones [1, 3, 4, 5, 6, 7, 8, 9, 10, 11, 12, 13, 14, 15, 16] .fin))))] (detL_ok _ _) Tryd.func8 rfl Tryd.ntmps8 res8 (by kernel_rfl) no_facts ?_
  simp (config := { maxSteps := 4000000 }) only [↓sx0, ↓sx1, ↓sx2, ↓sx3, ↓sx4, ↓sx5, ↓sx6, sx0, sx1, sx2, sx3, sx4, sx5, sx6, tf8, ev3_hold, sxo, sxc, sxp, sxq, sxr, sxs, sxl, sxm, Int.reduceBEq, Int.reduceBNe, Int.reduceLT, Int.reduceLE, Int.reduceEq, Int.reduceGT, Int.reduceGE, Int.reduceToNat, ↓reduceIte, List.reduceReplicate, Nat.reduceAdd, Nat.reduceSub, Nat.reduceMul, Nat.reduceLT, Nat.reduceLeDiff, Nat.reduceBEq, Nat.reduceEqDiff, dn]
  refine CallOb.pureH (fun w' hp => vast_fn w' _ c (hc0.hp hp)) ?_
  rintro r0 N0 ⟨vb, rfl, hb⟩
  cases vb with
  | true =>
    refine ⟨?_⟩
    simp (config := { maxSteps := 4000000 }) only [↓sx0, ↓sx1, ↓sx2, ↓sx3, ↓sx4, ↓sx5, ↓sx6, sx0, sx1, sx2, sx3, sx4, sx5, sx6, tf8, ev3_hold, sxo, sxc, sxp, sxq, sxr, sxs, sxl, sxm, Int.reduceBEq, Int.reduceBNe, Int.reduceLT, Int.reduceLE, Int.reduceEq, Int.reduceGT, Int.reduceGE, Int.reduceToNat, ↓reduceIte, List.reduceReplicate, Nat.reduceAdd, Nat.reduceSub, Nat.reduceMul, Nat.reduceLT, Nat.reduceLeDiff, Nat.reduceBEq, Nat.reduceEqDiff, dn]
    refine CallOb.pureH (fun w' hp => hwk _ w' hp) ?_
    rintro rW NW rfl
    refine ⟨?_⟩
    simp (config := { maxSteps := 4000000 }) only [↓sx0, ↓sx1, ↓sx2, ↓sx3, ↓sx4, ↓sx5, ↓sx6, sx0, sx1, sx2, sx3, sx4, sx5, sx6, tf8, ev3_hold, sxo, sxc, sxp, sxq, sxr, sxs, sxl, sxm, Int.reduceBEq, Int.reduceBNe, Int.reduceLT, Int.reduceLE, Int.reduceEq, Int.reduceGT, Int.reduceGE, Int.reduceToNat, ↓reduceIte, List.reduceReplicate, Nat.reduceAdd, Nat.reduceSub, Nat.reduceMul, Nat.reduceLT, Nat.reduceLeDiff, Nat.reduceBEq, Nat.reduceEqDiff]
  | false =>
  have hf := (hb rfl).1
  have hsm := few_small hf
  have hop1 := fun (v' : Value) (w' : World) (h : Ways w') (hc : ChOk w' v' c) => (lopen_fn w' h v' c hc hsm b r).mono fun _ _ => opens_got
  have hop2 := fun (v' : Value) (w' : World) (h : Ways w') (hc : ChOk w' v' c) => (rOpen_fn w' h v' c hc hsm b r).mono fun _ _ => opens_got
  have hre1 := fun (v' : Value) (w' : World) (h : Ways w') (hc : ChOk w' v' c) => (lreach_fn w' h v' c hc hsm b r t).mono fun _ _ => reach_got
  have hre2 := fun (v' : Value) (w' : World) (h : Ways w') (hc : ChOk w' v' c) => (rReach_fn w' h v' c hc hsm b r t).mono fun _ _ => reach_got
  unfold clv rmv at hop1 hop2 hre1 hre2
  have hol : (opL c b r).length ≤ 1000 := by
    unfold opL
    have := hsm.2.1
    split
    · exact Nat.le_trans (winL_len _ _) (by omega)
    · exact Nat.zero_le _
  have hrl : (reL c b r t).length ≤ 1000 := by
    unfold reL reachL
    have := hsm.1
    split
    · split
      · rw [List.length_map, List.length_range]; omega
      · rw [List.length_replicate]; omega
    · exact Nat.zero_le _
  obtain ⟨OL, hOL⟩ : ∃ OL, opL c b r = OL := ⟨_, rfl⟩
  obtain ⟨RL, hRL⟩ : ∃ RL, reL c b r t = RL := ⟨_, rfl⟩
  obtain ⟨E1, hE1⟩ : ∃ E, staE c b r 0 0 = E := ⟨_, rfl⟩
  obtain ⟨E2, hE2⟩ : ∃ E, staE c b r t 0 = E := ⟨_, rfl⟩
  obtain ⟨r1, r2, r3, r4, r5⟩ := r
  simp only [hOL, hE1] at hop1 hop2
  simp only [hRL, hE2] at hre1 hre2
  rw [hOL] at hol
  rw [hRL] at hrl
  refine ⟨?_⟩
  simp (config := { maxSteps := 4000000 }) only [↓sx0, ↓sx1, ↓sx2, ↓sx3, ↓sx4, ↓sx5, ↓sx6, sx0, sx1, sx2, sx3, sx4, sx5, sx6, tf8, ev3_hold, sxo, sxc, sxp, sxq, sxr, sxs, sxl, sxm, Int.reduceBEq, Int.reduceBNe, Int.reduceLT, Int.reduceLE, Int.reduceEq, Int.reduceGT, Int.reduceGE, Int.reduceToNat, ↓reduceIte, List.reduceReplicate, Nat.reduceAdd, Nat.reduceSub, Nat.reduceMul, Nat.reduceLT, Nat.reduceLeDiff, Nat.reduceBEq, Nat.reduceEqDiff, dn]
  refine CallOb.pureH (fun w' hp => copy_fn w' _ c (hc0.hp hp) hf) ?_
  rintro q N1 ⟨x1, y1, z1, rfl, gx, gy, gz⟩
  obtain ⟨aX, cX, rfl⟩ := gx.shape
  obtain ⟨aY, cY, rfl⟩ := gy.shape
  obtain ⟨aZ, cZ, rfl⟩ := gz.shape
  have hcd := fun (w' : World) (H : List HO) (hm : ∀ h ∈ N1, h ∈ H) (hp : Hp ⟨w, fun _ => False⟩ H w') => got_ch gx gy gz hm hp
  refine ⟨?_⟩
  simp (config := { maxSteps := 4000000 }) only [↓sx0, ↓sx1, ↓sx2, ↓sx3, ↓sx4, ↓sx5, ↓sx6, sx0, sx1, sx2, sx3, sx4, sx5, sx6, tf8, ev3_hold, sxo, sxc, sxp, sxq, sxr, sxs, sxl, sxm, Int.reduceBEq, Int.reduceBNe, Int.reduceLT, Int.reduceLE, Int.reduceEq, Int.reduceGT, Int.reduceGE, Int.reduceToNat, ↓reduceIte, List.reduceReplicate, Nat.reduceAdd, Nat.reduceSub, Nat.reduceMul, Nat.reduceLT, Nat.reduceLeDiff, Nat.reduceBEq, Nat.reduceEqDiff, dn]
  refine CallOb.pureH (fun w' hp => hop1 _ w' (hw.hp hp) (hcd w' _ (fun h hh => by simp [hh]) hp)) ?_
  rintro q N2 ⟨x2, rfl, g2⟩
  refine ⟨?_⟩
  simp (config := { maxSteps := 4000000 }) only [↓sx0, ↓sx1, ↓sx2, ↓sx3, ↓sx4, ↓sx5, ↓sx6, sx0, sx1, sx2, sx3, sx4, sx5, sx6, tf8, ev3_hold, sxo, sxc, sxp, sxq, sxr, sxs, sxl, sxm, Int.reduceBEq, Int.reduceBNe, Int.reduceLT, Int.reduceLE, Int.reduceEq, Int.reduceGT, Int.reduceGE, Int.reduceToNat, ↓reduceIte, List.reduceReplicate, Nat.reduceAdd, Nat.reduceSub, Nat.reduceMul, Nat.reduceLT, Nat.reduceLeDiff, Nat.reduceBEq, Nat.reduceEqDiff, dn]
  refine CallOb.pureH (fun w' hp => hop2 _ w' (hw.hp hp) (hc0.hp hp)) ?_
  rintro q N3 ⟨x3, rfl, g3⟩
  obtain ⟨a2, c2, rfl⟩ := g2.shape
  obtain ⟨a3, c3, rfl⟩ := g3.shape
  obtain ⟨HB, hHB⟩ : ∃ HB, N3 ++ (N2 ++ (N1 ++ N0)) = HB := ⟨_, rfl⟩
  have hm1 : ∀ h ∈ N1, h ∈ HB := fun h hh => by rw [← hHB]; simp [hh]
  have rd2 := g2.rdv (w0 := ⟨w, fun _ => False⟩) (H := HB) spc_len (fun h hh => by rw [← hHB]; simp [hh])
  have rd3 := g3.rdv (w0 := ⟨w, fun _ => False⟩) (H := HB) spc_len (fun h hh => by rw [← hHB]; simp [hh])
  rw [hHB]
  refine ⟨?_⟩
  simp (config := { maxSteps := 4000000 }) only [↓sx0, ↓sx1, ↓sx2, ↓sx3, ↓sx4, ↓sx5, ↓sx6, sx0, sx1, sx2, sx3, sx4, sx5, sx6, tf8, ev3_hold, sxo, sxc, sxp, sxq, sxr, sxs, sxl, sxm, Int.reduceBEq, Int.reduceBNe, Int.reduceLT, Int.reduceLE, Int.reduceEq, Int.reduceGT, Int.reduceGE, Int.reduceToNat, ↓reduceIte, List.reduceReplicate, Nat.reduceAdd, Nat.reduceSub, Nat.reduceMul, Nat.reduceLT, Nat.reduceLeDiff, Nat.reduceBEq, Nat.reduceEqDiff, dq]
  refine loop_constH HB (HImp.refl _ _) [(6, 6), (12, 12), (53, 67)] (fun i : Nat => [(12, I i)]) (fun i H1 => i ≤ OL.length ∧ H1 = HB) (fun i => OL.length - i) 0 ?_ ⟨Nat.zero_le _, rfl⟩ ?_
  · simp (config := { maxSteps := 4000000 }) only [↓sx0, ↓sx1, ↓sx2, ↓sx3, ↓sx4, ↓sx5, ↓sx6, sx0, sx1, sx2, sx3, sx4, sx5, sx6, tf8, ev3_hold, sxo, sxc, sxp, sxq, sxr, sxs, sxl, sxm, Int.reduceBEq, Int.reduceBNe, Int.reduceLT, Int.reduceLE, Int.reduceEq, Int.reduceGT, Int.reduceGE, Int.reduceToNat, ↓reduceIte, List.reduceReplicate, Nat.reduceAdd, Nat.reduceSub, Nat.reduceMul, Nat.reduceLT, Nat.reduceLeDiff, Nat.reduceBEq, Nat.reduceEqDiff]
    try simp
  rintro i H1 g1 ⟨hi, hH1⟩
  have hH2 := hH1.symm
  subst hH2
  by_cases hin : i = OL.length
  case neg =>
    have e7 : ((i : Int) < (OL.length : Int)) = True := eq_true (by omega)
    have e8 : wr (i + 1) = ((i + 1 : Nat) : Int) := (wrap_id (by omega)).trans (by omega)
    have hil : i < OL.length := by omega
    have hu := List.getElem?_eq_getElem hil
    obtain ⟨p, hp⟩ : ∃ p, OL[i] = p := ⟨_, rfl⟩
    rw [hp] at hu
    have e9 : decide (p = p) = true := decide_eq_true rfl
    refine ⟨?_⟩
    simp (config := { maxSteps := 4000000 }) only [↓sx0, ↓sx1, ↓sx2, ↓sx3, ↓sx4, ↓sx5, ↓sx6, sx0, sx1, sx2, sx3, sx4, sx5, sx6, tf8, ev3_hold, sxo, sxc, sxp, sxq, sxr, sxs, sxl, sxm, Int.reduceBEq, Int.reduceBNe, Int.reduceLT, Int.reduceLE, Int.reduceEq, Int.reduceGT, Int.reduceGE, Int.reduceToNat, ↓reduceIte, List.reduceReplicate, Nat.reduceAdd, Nat.reduceSub, Nat.reduceMul, Nat.reduceLT, Nat.reduceLeDiff, Nat.reduceBEq, Nat.reduceEqDiff, e7]
    refine amid (at_n rd2 spc_len (by omega) hu fun ad => ?_)
    simp (config := { maxSteps := 4000000 }) only [↓sx0, ↓sx1, ↓sx2, ↓sx3, ↓sx4, ↓sx5, ↓sx6, sx0, sx1, sx2, sx3, sx4, sx5, sx6, tf8, ev3_hold, sxo, sxc, sxp, sxq, sxr, sxs, sxl, sxm, Int.reduceBEq, Int.reduceBNe, Int.reduceLT, Int.reduceLE, Int.reduceEq, Int.reduceGT, Int.reduceGE, Int.reduceToNat, ↓reduceIte, List.reduceReplicate, Nat.reduceAdd, Nat.reduceSub, Nat.reduceMul, Nat.reduceLT, Nat.reduceLeDiff, Nat.reduceBEq, Nat.reduceEqDiff, e7]
    refine amid (at_n rd3 spc_len (by omega) hu fun ad2 => ?_)
    simp (config := { maxSteps := 4000000 }) only [↓sx0, ↓sx1, ↓sx2, ↓sx3, ↓sx4, ↓sx5, ↓sx6, sx0, sx1, sx2, sx3, sx4, sx5, sx6, tf8, ev3_hold, sxo, sxc, sxp, sxq, sxr, sxs, sxl, sxm, Int.reduceBEq, Int.reduceBNe, Int.reduceLT, Int.reduceLE, Int.reduceEq, Int.reduceGT, Int.reduceGE, Int.reduceToNat, ↓reduceIte, List.reduceReplicate, Nat.reduceAdd, Nat.reduceSub, Nat.reduceMul, Nat.reduceLT, Nat.reduceLeDiff, Nat.reduceBEq, Nat.reduceEqDiff]
    refine ⟨_, eq_span _ _, ?_⟩
    simp (config := { maxSteps := 4000000 }) only [↓sx0, ↓sx1, ↓sx2, ↓sx3, ↓sx4, ↓sx5, ↓sx6, sx0, sx1, sx2, sx3, sx4, sx5, sx6, tf8, ev3_hold, sxo, sxc, sxp, sxq, sxr, sxs, sxl, sxm, Int.reduceBEq, Int.reduceBNe, Int.reduceLT, Int.reduceLE, Int.reduceEq, Int.reduceGT, Int.reduceGE, Int.reduceToNat, ↓reduceIte, List.reduceReplicate, Nat.reduceAdd, Nat.reduceSub, Nat.reduceMul, Nat.reduceLT, Nat.reduceLeDiff, Nat.reduceBEq, Nat.reduceEqDiff, e9, e8]
    exact ⟨i + 1, _, rfl, HImp.refl _ _, ⟨by omega, rfl⟩, by omega⟩
  have e7 : ((i : Int) < (OL.length : Int)) = False := eq_false (by omega)
  refine ⟨?_⟩
  simp (config := { maxSteps := 4000000 }) only [↓sx0, ↓sx1, ↓sx2, ↓sx3, ↓sx4, ↓sx5, ↓sx6, sx0, sx1, sx2, sx3, sx4, sx5, sx6, tf8, ev3_hold, sxo, sxc, sxp, sxq, sxr, sxs, sxl, sxm, Int.reduceBEq, Int.reduceBNe, Int.reduceLT, Int.reduceLE, Int.reduceEq, Int.reduceGT, Int.reduceGE, Int.reduceToNat, ↓reduceIte, List.reduceReplicate, Nat.reduceAdd, Nat.reduceSub, Nat.reduceMul, Nat.reduceLT, Nat.reduceLeDiff, Nat.reduceBEq, Nat.reduceEqDiff, e7, dn]
  refine CallOb.pureH (fun w' hp => hre1 _ w' (hw.hp hp) (hcd w' _ hm1 hp)) ?_
  rintro q N4 ⟨x4, rfl, g4⟩
  refine ⟨?_⟩
  simp (config := { maxSteps := 4000000 }) only [↓sx0, ↓sx1, ↓sx2, ↓sx3, ↓sx4, ↓sx5, ↓sx6, sx0, sx1, sx2, sx3, sx4, sx5, sx6, tf8, ev3_hold, sxo, sxc, sxp, sxq, sxr, sxs, sxl, sxm, Int.reduceBEq, Int.reduceBNe, Int.reduceLT, Int.reduceLE, Int.reduceEq, Int.reduceGT, Int.reduceGE, Int.reduceToNat, ↓reduceIte, List.reduceReplicate, Nat.reduceAdd, Nat.reduceSub, Nat.reduceMul, Nat.reduceLT, Nat.reduceLeDiff, Nat.reduceBEq, Nat.reduceEqDiff, dn]
  refine CallOb.pureH (fun w' hp => hre2 _ w' (hw.hp hp) (hc0.hp hp)) ?_
  rintro q N5 ⟨x5, rfl, g5⟩
  refine ⟨?_⟩
  simp (config := { maxSteps := 4000000 }) only [↓sx0, ↓sx1, ↓sx2, ↓sx3, ↓sx4, ↓sx5, ↓sx6, sx0, sx1, sx2, sx3, sx4, sx5, sx6, tf8, ev3_hold, sxo, sxc, sxp, sxq, sxr, sxs, sxl, sxm, Int.reduceBEq, Int.reduceBNe, Int.reduceLT, Int.reduceLE, Int.reduceEq, Int.reduceGT, Int.reduceGE, Int.reduceToNat, ↓reduceIte, List.reduceReplicate, Nat.reduceAdd, Nat.reduceSub, Nat.reduceMul, Nat.reduceLT, Nat.reduceLeDiff, Nat.reduceBEq, Nat.reduceEqDiff, dn]
  refine CallOb.pureH (fun w' hp => same5_fn w' _ _ RL RL (g4.hp (fun h hh => by simp [hh]) hp) (g5.hp (fun h hh => by simp [hh]) hp) (by omega)) ?_
  rintro q N6 rfl
  have hRR : decide (RL = RL) = true := decide_eq_true rfl
  rw [hRR]
  refine ⟨?_⟩
  simp (config := { maxSteps := 4000000 }) only [↓sx0, ↓sx1, ↓sx2, ↓sx3, ↓sx4, ↓sx5, ↓sx6, sx0, sx1, sx2, sx3, sx4, sx5, sx6, tf8, ev3_hold, sxo, sxc, sxp, sxq, sxr, sxs, sxl, sxm, Int.reduceBEq, Int.reduceBNe, Int.reduceLT, Int.reduceLE, Int.reduceEq, Int.reduceGT, Int.reduceGE, Int.reduceToNat, ↓reduceIte, List.reduceReplicate, Nat.reduceAdd, Nat.reduceSub, Nat.reduceMul, Nat.reduceLT, Nat.reduceLeDiff, Nat.reduceBEq, Nat.reduceEqDiff, dn]
  refine CallOb.pureH (fun w' hp => hwk _ w' hp) ?_
  rintro rW NW rfl
  refine ⟨?_⟩
  simp (config := { maxSteps := 4000000 }) only [↓sx0, ↓sx1, ↓sx2, ↓sx3, ↓sx4, ↓sx5, ↓sx6, sx0, sx1, sx2, sx3, sx4, sx5, sx6, tf8, ev3_hold, sxo, sxc, sxp, sxq, sxr, sxs, sxl, sxm, Int.reduceBEq, Int.reduceBNe, Int.reduceLT, Int.reduceLE, Int.reduceEq, Int.reduceGT, Int.reduceGE, Int.reduceToNat, ↓reduceIte, List.reduceReplicate, Nat.reduceAdd, Nat.reduceSub, Nat.reduceMul, Nat.reduceLT, Nat.reduceLeDiff, Nat.reduceBEq, Nat.reduceEqDiff]
end Go.Proofs.YtcnlbnccbnapbaaDoor
