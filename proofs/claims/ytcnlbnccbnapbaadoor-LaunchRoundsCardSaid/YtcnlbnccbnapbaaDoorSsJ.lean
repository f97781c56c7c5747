/- A part of a proof: the symbolic walk and what it shows of single functions. -/
import Derived.Test.YtcnlbnccbnapbaaDoorSsI
set_option linter.all false
namespace Go.Proofs.YtcnlbnccbnapbaaDoor
open Go.RowKit Go.SX
set_option maxRecDepth 10000
set_option maxHeartbeats 0
set_option linter.unusedSimpArgs false
set_option linter.unusedVariables false
theorem RoundP.got {c : Cht} {b : Cls} {r : Rmp} {t f ts : Int} {q : Value} {N : List HO} (h : RoundP c b r t f ts q N) : ∃ x ws, q = .tuple #[x, I (roE c b r t f ts)] ∧ Got x 3 1 i1 ws N ∧ (roE c b r t f ts ≠ 0 → ws = []) ∧ (roE c b r t f ts = 0 → ws.length = c.depth.length ∧ ∀ k : Nat, k < c.depth.length → (Vg.of c b r t k ts).Ans (rdyB c b r) f (ws.getD k 0)) := by
  rcases h with ⟨h1, rfl⟩ | ⟨h1, x, ws, rfl, h2, h3, h4⟩
  · exact ⟨_, [], rfl, Got.nil _, fun _ => rfl, fun h => absurd h h1⟩
  · rw [h1]
    exact ⟨x, ws, rfl, h2, fun h => absurd rfl h, fun _ => ⟨h3, h4⟩⟩
theorem round_same {c : Cht} {b : Cls} {r : Rmp} {t f ts : Int} {ws ws' : List Int} (h1 : roE c b r t f ts ≠ 0 → ws = []) (h2 : roE c b r t f ts = 0 → ws.length = c.depth.length ∧ ∀ k : Nat, k < c.depth.length → (Vg.of c b r t k ts).Ans (rdyB c b r) f (ws.getD k 0)) (h3 : roE c b r t f ts ≠ 0 → ws' = []) (h4 : roE c b r t f ts = 0 → ws'.length = c.depth.length ∧ ∀ k : Nat, k < c.depth.length → (Vg.of c b r t k ts).Ans (rdyB c b r) f (ws'.getD k 0)) : ws = ws' := by
  by_cases h : roE c b r t f ts = 0
  · obtain ⟨a1, a2⟩ := h2 h
    obtain ⟨b1, b2⟩ := h4 h
    refine List.ext_getElem (by omega) fun i hi hi' => ?_
    have := Vg.Ans.uniq (a2 i (by omega)) (b2 i (by omega))
    rw [List.getD_eq_getElem?_getD, List.getD_eq_getElem?_getD, List.getElem?_eq_getElem hi, List.getElem?_eq_getElem hi'] at this
    exact this
  · rw [h1 h, h3 h]
def pl4_3 : Plan := (ones [3, 5, 7, 9, 10] (.ld 0 (.ld 2 (.ld 4 (.ld 6 (.ld 8 (.ld 11 (ones [1, 12, 13, 14, 15, 16, 17] .fin))))))))
def pl4 : List (Nat × Plan) := [(3, pl4_3)]
theorem pl4_lk : (lkO 3 pl4 = some pl4_3) := rfl
theorem launchRounds_fn (w : World) (hw : Ways w) (v : Value) (c : Cht) (hc : ChOk w v c) (b : Cls) (o : Ord5) :
    SX.Fn Tryd.prog 4 [v, clv b, orv o] w (fun _ => False) fun r N => r = .bool true := by
  have hc0 := hc
  have hD := detO_ok (X := fun _ => False) hw hc (fun _ _ => id)
  have hck := fun (hsm : c.small) => show detO v c 20 [v] = some (I (if c.okB then 0 else 10)) from (detM_check (v := v) hsm).2
  have hwk := fun (H : List HO) w' (hp : Hp ⟨w, fun _ => False⟩ H w') => works5_fn w' (hw.hp hp)
  obtain ⟨r, t, f, tc, ts⟩ := o
  have hro1 := fun (hsm : c.small) (v' : Value) w' (h : Ways w') (hc : ChOk w' v' c) => (round5_fn w' h v' c hc hsm b r t f ts).mono fun _ _ => RoundP.got
  have hro2 := fun (hsm : c.small) (H : List HO) w' (hp : Hp ⟨w, fun _ => False⟩ H w') => (rRound_fn w' (hw.hp hp) v c (hc0.hp hp) hsm b r t f ts).mono fun _ _ => RoundP.got
  obtain ⟨sD, sT, sS, rfl, hsD, hsT, hsS⟩ := hc
  obtain ⟨aT, nT, cT, rfl⟩ := hsT.shape
  have hnT := hsT.le spc_len (by omega)
  subst hnT
  have dn : (∀ xs, detO (.agg #[I c.wide, I c.high, sD, .slice aT c.tide.length cT, sS]) c 14 xs = none) ∧ (∀ xs, detO (.agg #[I c.wide, I c.high, sD, .slice aT c.tide.length cT, sS]) c 15 xs = none) ∧ (∀ xs, detO (.agg #[I c.wide, I c.high, sD, .slice aT c.tide.length cT, sS]) c 17 xs = none) ∧ (∀ xs, detO (.agg #[I c.wide, I c.high, sD, .slice aT c.tide.length cT, sS]) c 21 xs = none) ∧ (∀ xs, detO (.agg #[I c.wide, I c.high, sD, .slice aT c.tide.length cT, sS]) c 22 xs = none) ∧ (∀ xs, detO (.agg #[I c.wide, I c.high, sD, .slice aT c.tide.length cT, sS]) c 23 xs = none) := ⟨fun _ => rfl, fun _ => rfl, fun _ => rfl, fun _ => rfl, fun _ => rfl, fun _ => rfl⟩
  have hsame := fun ws ws' h1 h2 h3 h4 => round_same (c := c) (b := b) (r := r) (t := t) (f := f) (ts := ts) (ws := ws) (ws' := ws') h1 h2 h3 h4
  have hbd : ∀ ws : List Int, (roE c b r t f ts ≠ 0 → ws = []) → (roE c b r t f ts = 0 → ws.length = c.depth.length ∧ ∀ k : Nat, k < c.depth.length → (Vg.of c b r t k ts).Ans (rdyB c b r) f (ws.getD k 0)) → c.small → ws.length ≤ 1000 := fun ws h1 h2 hsm => by
    by_cases h : roE c b r t f ts = 0
    · have := (h2 h).1
      have := hsm.1
      omega
    · rw [h1 h]
      exact Nat.zero_le _
  unfold orv
  unfold clv rmv at hro1 hro2
  unfold clv
  refine walkC [6] [] pl4 hD Tryd.func4 rfl Tryd.ntmps4 res4 (by kernel_rfl) no_facts ?_
  simp (config := { maxSteps := 4000000 }) only [↓sx0, ↓sx1, ↓sx2, ↓sx3, ↓sx4, ↓sx5, ↓sx6, sx0, sx1, sx2, sx3, sx4, sx5, sx6, tf4, ev3_hold, sxo, sxc, sxp, sxq, sxr, sxs, sxl, sxm, Int.reduceBEq, Int.reduceBNe, Int.reduceLT, Int.reduceLE, Int.reduceEq, Int.reduceGT, Int.reduceGE, Int.reduceToNat, ↓reduceIte, List.reduceReplicate, Nat.reduceAdd, Nat.reduceSub, Nat.reduceMul, Nat.reduceLT, Nat.reduceLeDiff, Nat.reduceBEq, Nat.reduceEqDiff, dn]
  refine cut_constH [(11, 31)] (fun _ : Unit => []) (fun _ H2 => c.few ∧ H2 = []) ?_ ?_
  · refine ⟨?_⟩
    simp (config := { maxSteps := 4000000 }) only [↓sx0, ↓sx1, ↓sx2, ↓sx3, ↓sx4, ↓sx5, ↓sx6, sx0, sx1, sx2, sx3, sx4, sx5, sx6, tf4, ev3_hold, sxo, sxc, sxp, sxq, sxr, sxs, sxl, sxm, Int.reduceBEq, Int.reduceBNe, Int.reduceLT, Int.reduceLE, Int.reduceEq, Int.reduceGT, Int.reduceGE, Int.reduceToNat, ↓reduceIte, List.reduceReplicate, Nat.reduceAdd, Nat.reduceSub, Nat.reduceMul, Nat.reduceLT, Nat.reduceLeDiff, Nat.reduceBEq, Nat.reduceEqDiff, dn]
    refine CallOb.pureH (fun w' hp => vast_fn w' _ c (hc0.hp hp)) ?_
    rintro r0 N0 ⟨vb, rfl, hb⟩
    cases vb with
    | true =>
      refine ⟨?_⟩
      simp (config := { maxSteps := 4000000 }) only [↓sx0, ↓sx1, ↓sx2, ↓sx3, ↓sx4, ↓sx5, ↓sx6, sx0, sx1, sx2, sx3, sx4, sx5, sx6, tf4, ev3_hold, sxo, sxc, sxp, sxq, sxr, sxs, sxl, sxm, Int.reduceBEq, Int.reduceBNe, Int.reduceLT, Int.reduceLE, Int.reduceEq, Int.reduceGT, Int.reduceGE, Int.reduceToNat, ↓reduceIte, List.reduceReplicate, Nat.reduceAdd, Nat.reduceSub, Nat.reduceMul, Nat.reduceLT, Nat.reduceLeDiff, Nat.reduceBEq, Nat.reduceEqDiff, dn]
      refine CallOb.pureH (fun w' hp => hwk _ w' hp) ?_
      rintro rW NW rfl
      refine ⟨?_⟩
      simp (config := { maxSteps := 4000000 }) only [↓sx0, ↓sx1, ↓sx2, ↓sx3, ↓sx4, ↓sx5, ↓sx6, sx0, sx1, sx2, sx3, sx4, sx5, sx6, tf4, ev3_hold, sxo, sxc, sxp, sxq, sxr, sxs, sxl, sxm, Int.reduceBEq, Int.reduceBNe, Int.reduceLT, Int.reduceLE, Int.reduceEq, Int.reduceGT, Int.reduceGE, Int.reduceToNat, ↓reduceIte, List.reduceReplicate, Nat.reduceAdd, Nat.reduceSub, Nat.reduceMul, Nat.reduceLT, Nat.reduceLeDiff, Nat.reduceBEq, Nat.reduceEqDiff]
    | false =>
    have hf := (hb rfl).1
    have hsm := few_small hf
    have hck1 := hck hsm
    cases hokB : c.okB with
    | false =>
      rw [hokB] at hck1
      refine ⟨?_⟩
      simp (config := { maxSteps := 4000000 }) only [↓sx0, ↓sx1, ↓sx2, ↓sx3, ↓sx4, ↓sx5, ↓sx6, sx0, sx1, sx2, sx3, sx4, sx5, sx6, tf4, ev3_hold, sxo, sxc, sxp, sxq, sxr, sxs, sxl, sxm, Int.reduceBEq, Int.reduceBNe, Int.reduceLT, Int.reduceLE, Int.reduceEq, Int.reduceGT, Int.reduceGE, Int.reduceToNat, ↓reduceIte, List.reduceReplicate, Nat.reduceAdd, Nat.reduceSub, Nat.reduceMul, Nat.reduceLT, Nat.reduceLeDiff, Nat.reduceBEq, Nat.reduceEqDiff, hck1]
      exact ⟨(), _, HImp.nil _ _, hf, rfl⟩
    | true =>
      rw [hokB] at hck1
      have hwh : (c.depth.length : Int) = c.wide * c.high := ((okB_iff c).1 hokB).2.2.1
      have hdl := hsm.1
      have ewh : IntKind.i64.wrap (c.wide * c.high) = (c.depth.length : Int) := by rw [← hwh]; exact wrap_id (by omega)
      by_cases c1 : (c.depth.length : Int) > 24
      · have p1 : ((c.depth.length : Int) > 24) = True := eq_true c1
        refine ⟨?_⟩
        simp (config := { maxSteps := 4000000 }) only [↓sx0, ↓sx1, ↓sx2, ↓sx3, ↓sx4, ↓sx5, ↓sx6, sx0, sx1, sx2, sx3, sx4, sx5, sx6, tf4, ev3_hold, sxo, sxc, sxp, sxq, sxr, sxs, sxl, sxm, Int.reduceBEq, Int.reduceBNe, Int.reduceLT, Int.reduceLE, Int.reduceEq, Int.reduceGT, Int.reduceGE, Int.reduceToNat, ↓reduceIte, List.reduceReplicate, Nat.reduceAdd, Nat.reduceSub, Nat.reduceMul, Nat.reduceLT, Nat.reduceLeDiff, Nat.reduceBEq, Nat.reduceEqDiff, hck1, ewh, p1, dn]
        refine CallOb.pureH (fun w' hp => hwk _ w' hp) ?_
        rintro rW NW rfl
        refine ⟨?_⟩
        simp (config := { maxSteps := 4000000 }) only [↓sx0, ↓sx1, ↓sx2, ↓sx3, ↓sx4, ↓sx5, ↓sx6, sx0, sx1, sx2, sx3, sx4, sx5, sx6, tf4, ev3_hold, sxo, sxc, sxp, sxq, sxr, sxs, sxl, sxm, Int.reduceBEq, Int.reduceBNe, Int.reduceLT, Int.reduceLE, Int.reduceEq, Int.reduceGT, Int.reduceGE, Int.reduceToNat, ↓reduceIte, List.reduceReplicate, Nat.reduceAdd, Nat.reduceSub, Nat.reduceMul, Nat.reduceLT, Nat.reduceLeDiff, Nat.reduceBEq, Nat.reduceEqDiff]
      have p1 : ((c.depth.length : Int) > 24) = False := eq_false c1
      by_cases c2 : (c.tide.length : Int) > 10
      · have p2 : ((c.tide.length : Int) > 10) = True := eq_true c2
        refine ⟨?_⟩
        simp (config := { maxSteps := 4000000 }) only [↓sx0, ↓sx1, ↓sx2, ↓sx3, ↓sx4, ↓sx5, ↓sx6, sx0, sx1, sx2, sx3, sx4, sx5, sx6, tf4, ev3_hold, sxo, sxc, sxp, sxq, sxr, sxs, sxl, sxm, Int.reduceBEq, Int.reduceBNe, Int.reduceLT, Int.reduceLE, Int.reduceEq, Int.reduceGT, Int.reduceGE, Int.reduceToNat, ↓reduceIte, List.reduceReplicate, Nat.reduceAdd, Nat.reduceSub, Nat.reduceMul, Nat.reduceLT, Nat.reduceLeDiff, Nat.reduceBEq, Nat.reduceEqDiff, hck1, ewh, p1, p2, dn]
        refine CallOb.pureH (fun w' hp => hwk _ w' hp) ?_
        rintro rW NW rfl
        refine ⟨?_⟩
        simp (config := { maxSteps := 4000000 }) only [↓sx0, ↓sx1, ↓sx2, ↓sx3, ↓sx4, ↓sx5, ↓sx6, sx0, sx1, sx2, sx3, sx4, sx5, sx6, tf4, ev3_hold, sxo, sxc, sxp, sxq, sxr, sxs, sxl, sxm, Int.reduceBEq, Int.reduceBNe, Int.reduceLT, Int.reduceLE, Int.reduceEq, Int.reduceGT, Int.reduceGE, Int.reduceToNat, ↓reduceIte, List.reduceReplicate, Nat.reduceAdd, Nat.reduceSub, Nat.reduceMul, Nat.reduceLT, Nat.reduceLeDiff, Nat.reduceBEq, Nat.reduceEqDiff]
      have p2 : ((c.tide.length : Int) > 10) = False := eq_false c2
      refine ⟨?_⟩
      simp (config := { maxSteps := 4000000 }) only [↓sx0, ↓sx1, ↓sx2, ↓sx3, ↓sx4, ↓sx5, ↓sx6, sx0, sx1, sx2, sx3, sx4, sx5, sx6, tf4, ev3_hold, sxo, sxc, sxp, sxq, sxr, sxs, sxl, sxm, Int.reduceBEq, Int.reduceBNe, Int.reduceLT, Int.reduceLE, Int.reduceEq, Int.reduceGT, Int.reduceGE, Int.reduceToNat, ↓reduceIte, List.reduceReplicate, Nat.reduceAdd, Nat.reduceSub, Nat.reduceMul, Nat.reduceLT, Nat.reduceLeDiff, Nat.reduceBEq, Nat.reduceEqDiff, hck1, ewh, p1, p2]
      exact ⟨(), _, HImp.nil _ _, hf, rfl⟩
  rintro _ H2 g0 ⟨hf, hH2⟩
  subst hH2
  have hsm := few_small hf
  have hro1 := hro1 hsm
  have hro2 := hro2 hsm
  refine ⟨?_⟩
  simp (config := { maxSteps := 4000000 }) only [↓sx0, ↓sx1, ↓sx2, ↓sx3, ↓sx4, ↓sx5, ↓sx6, sx0, sx1, sx2, sx3, sx4, sx5, sx6, tf4, ev3_hold, sxo, sxc, sxp, sxq, sxr, sxs, sxl, sxm, Int.reduceBEq, Int.reduceBNe, Int.reduceLT, Int.reduceLE, Int.reduceEq, Int.reduceGT, Int.reduceGE, Int.reduceToNat, ↓reduceIte, List.reduceReplicate, Nat.reduceAdd, Nat.reduceSub, Nat.reduceMul, Nat.reduceLT, Nat.reduceLeDiff, Nat.reduceBEq, Nat.reduceEqDiff, dn, pl4_lk, pl4_3]
  refine CallOb.pureH (fun w' hp => copy_fn w' _ c (hc0.hp hp) hf) ?_
  rintro q N1 ⟨x1, y1, z1, rfl, gx, gy, gz⟩
  obtain ⟨aX, cX, rfl⟩ := gx.shape
  obtain ⟨aY, cY, rfl⟩ := gy.shape
  obtain ⟨aZ, cZ, rfl⟩ := gz.shape
  refine ⟨?_⟩
  simp (config := { maxSteps := 4000000 }) only [↓sx0, ↓sx1, ↓sx2, ↓sx3, ↓sx4, ↓sx5, ↓sx6, sx0, sx1, sx2, sx3, sx4, sx5, sx6, tf4, ev3_hold, sxo, sxc, sxp, sxq, sxr, sxs, sxl, sxm, Int.reduceBEq, Int.reduceBNe, Int.reduceLT, Int.reduceLE, Int.reduceEq, Int.reduceGT, Int.reduceGE, Int.reduceToNat, ↓reduceIte, List.reduceReplicate, Nat.reduceAdd, Nat.reduceSub, Nat.reduceMul, Nat.reduceLT, Nat.reduceLeDiff, Nat.reduceBEq, Nat.reduceEqDiff, dn, pl4_lk, pl4_3]
  refine CallOb.pureH (fun w' hp => hro1 _ w' (hw.hp hp) (got_ch gx gy gz (fun h hh => by simp [hh]) hp)) ?_
  rintro q N2 ⟨x2, ws, rfl, g2, h21, h22⟩
  refine ⟨?_⟩
  simp (config := { maxSteps := 4000000 }) only [↓sx0, ↓sx1, ↓sx2, ↓sx3, ↓sx4, ↓sx5, ↓sx6, sx0, sx1, sx2, sx3, sx4, sx5, sx6, tf4, ev3_hold, sxo, sxc, sxp, sxq, sxr, sxs, sxl, sxm, Int.reduceBEq, Int.reduceBNe, Int.reduceLT, Int.reduceLE, Int.reduceEq, Int.reduceGT, Int.reduceGE, Int.reduceToNat, ↓reduceIte, List.reduceReplicate, Nat.reduceAdd, Nat.reduceSub, Nat.reduceMul, Nat.reduceLT, Nat.reduceLeDiff, Nat.reduceBEq, Nat.reduceEqDiff, dn, pl4_lk, pl4_3]
  refine CallOb.pureH (fun w' hp => hro2 _ w' hp) ?_
  rintro q N3 ⟨x3, ws', rfl, g3, h31, h32⟩
  have hww := hsame ws ws' h21 h22 h31 h32
  subst hww
  have hwl := hbd ws h21 h22 hsm
  refine ⟨?_⟩
  simp (config := { maxSteps := 4000000 }) only [↓sx0, ↓sx1, ↓sx2, ↓sx3, ↓sx4, ↓sx5, ↓sx6, sx0, sx1, sx2, sx3, sx4, sx5, sx6, tf4, ev3_hold, sxo, sxc, sxp, sxq, sxr, sxs, sxl, sxm, Int.reduceBEq, Int.reduceBNe, Int.reduceLT, Int.reduceLE, Int.reduceEq, Int.reduceGT, Int.reduceGE, Int.reduceToNat, ↓reduceIte, List.reduceReplicate, Nat.reduceAdd, Nat.reduceSub, Nat.reduceMul, Nat.reduceLT, Nat.reduceLeDiff, Nat.reduceBEq, Nat.reduceEqDiff, dn]
  refine CallOb.pureH (fun w' hp => same5_fn w' _ _ ws ws (g2.hp (fun h hh => by simp [hh]) hp) (g3.hp (fun h hh => by simp [hh]) hp) (by omega)) ?_
  rintro q N4 rfl
  have hRR : decide (ws = ws) = true := decide_eq_true rfl
  rw [hRR]
  refine ⟨?_⟩
  simp (config := { maxSteps := 4000000 }) only [↓sx0, ↓sx1, ↓sx2, ↓sx3, ↓sx4, ↓sx5, ↓sx6, sx0, sx1, sx2, sx3, sx4, sx5, sx6, tf4, ev3_hold, sxo, sxc, sxp, sxq, sxr, sxs, sxl, sxm, Int.reduceBEq, Int.reduceBNe, Int.reduceLT, Int.reduceLE, Int.reduceEq, Int.reduceGT, Int.reduceGE, Int.reduceToNat, ↓reduceIte, List.reduceReplicate, Nat.reduceAdd, Nat.reduceSub, Nat.reduceMul, Nat.reduceLT, Nat.reduceLeDiff, Nat.reduceBEq, Nat.reduceEqDiff, dn]
  refine CallOb.pureH (fun w' hp => hwk _ w' hp) ?_
  rintro rW NW rfl
  refine ⟨?_⟩
  simp (config := { maxSteps := 4000000 }) only [↓sx0, ↓sx1, ↓sx2, ↓sx3, ↓sx4, ↓sx5, ↓sx6, sx0, sx1, sx2, sx3, sx4, sx5, sx6, tf4, ev3_hold, sxo, sxc, sxp, sxq, sxr, sxs, sxl, sxm, Int.reduceBEq, Int.reduceBNe, Int.reduceLT, Int.reduceLE, Int.reduceEq, Int.reduceGT, Int.reduceGE, Int.reduceToNat, ↓reduceIte, List.reduceReplicate, Nat.reduceAdd, Nat.reduceSub, Nat.reduceMul, Nat.reduceLT, Nat.reduceLeDiff, Nat.reduceBEq, Nat.reduceEqDiff]
end Go.Proofs.YtcnlbnccbnapbaaDoor
