/- A part of a proof: the symbolic walk and what it shows of single functions. -/
import Derived.Test.YtcnlbnccbnapbaaDoorSqJ
set_option linter.all false
namespace Go.Proofs.YtcnlbnccbnapbaaDoor
open Go.RowKit Go.SX
set_option maxRecDepth 10000
set_option maxHeartbeats 0
set_option linter.unusedSimpArgs false
set_option linter.unusedVariables false

theorem launchReaches_fn (w : World) (hw : Ways w) (v : Value) (c : Cht) (hc : ChOk w v c) (b : Cls) (o : Ord5) :
    SX.Fn Tryd.prog 13 [v, clv b, orv o] w (fun _ => False) fun r N => r = .bool true := by
  have hc0 := hc
  have hD := detO_ok (X := fun _ => False) hw hc (fun _ _ => id)
  have hwk := fun (H : List HO) w' (hp : Hp ⟨w, fun _ => False⟩ H w') => works5_fn w' (hw.hp hp)
  have hrdy := fun (H : List HO) w' (hp : Hp ⟨w, fun _ => False⟩ H w') => ready5_fn w' (hw.hp hp) v c (hc0.hp hp) b o
  obtain ⟨r, t, f, tc, ts⟩ := o
  have hro := fun (hsm : c.small) (H : List HO) w' (hp : Hp ⟨w, fun _ => False⟩ H w') => round5_fn w' (hw.hp hp) v c (hc0.hp hp) hsm b r t f ts
  have hgg := fun (hsm : c.small) (H : List HO) w' (hp : Hp ⟨w, fun _ => False⟩ H w') => go5_fn w' (hw.hp hp) v c (hc0.hp hp) hsm b r t f tc ts
  have hre := fun (hsm : c.small) (H : List HO) w' (hp : Hp ⟨w, fun _ => False⟩ H w') => lreach_fn w' (hw.hp hp) v c (hc0.hp hp) hsm b r t
  have har := fun (hsm : c.small) (H : List HO) w' (hp : Hp ⟨w, fun _ => False⟩ H w') => arrive_fn w' (hw.hp hp) v c (hc0.hp hp) hsm b.draught r.cell t
  have hop := fun (hsm : c.small) (H : List HO) w' (hp : Hp ⟨w, fun _ => False⟩ H w') => lopen_fn w' (hw.hp hp) v c (hc0.hp hp) hsm b r
  obtain ⟨sD, sT, sS, rfl, hsD, hsT, hsS⟩ := hc
  obtain ⟨aT, nT, cT, rfl⟩ := hsT.shape
  have hnT := hsT.le spc_len (by omega)
  subst hnT
  have hce : detO (.agg #[I c.wide, I c.high, sD, .slice aT c.tide.length cT, sS]) c 42 [.agg #[I c.wide, I c.high, sD, .slice aT c.tide.length cT, sS]] = some (I (wr (c.wide * c.high))) := rfl
  have dn : (∀ xs, detO (.agg #[I c.wide, I c.high, sD, .slice aT c.tide.length cT, sS]) c 24 xs = none) ∧ (∀ xs, detO (.agg #[I c.wide, I c.high, sD, .slice aT c.tide.length cT, sS]) c 15 xs = none) ∧ (∀ xs, detO (.agg #[I c.wide, I c.high, sD, .slice aT c.tide.length cT, sS]) c 16 xs = none) ∧ (∀ xs, detO (.agg #[I c.wide, I c.high, sD, .slice aT c.tide.length cT, sS]) c 21 xs = none) ∧ (∀ xs, detO (.agg #[I c.wide, I c.high, sD, .slice aT c.tide.length cT, sS]) c 32 xs = none) ∧ (∀ xs, detO (.agg #[I c.wide, I c.high, sD, .slice aT c.tide.length cT, sS]) c 28 xs = none) ∧ (∀ xs, detO (.agg #[I c.wide, I c.high, sD, .slice aT c.tide.length cT, sS]) c 41 xs = none) := ⟨fun _ => rfl, fun _ => rfl, fun _ => rfl, fun _ => rfl, fun _ => rfl, fun _ => rfl, fun _ => rfl⟩
  unfold clv orv at hrdy ⊢
  unfold clv rmv at hro hgg hre hop
  refine walk [] [] hD Tryd.func13 rfl Tryd.ntmps13 res13 (by kernel_rfl) no_facts ?_
  simp (config := { maxSteps := 4000000 }) only [↓sx0, ↓sx1, ↓sx2, ↓sx3, ↓sx4, ↓sx5, ↓sx6, sx0, sx1, sx2, sx3, sx4, sx5, sx6, tf13, ev3_hold, sxo, sxc, sxp, sxq, sxr, sxs, sxl, sxm, Int.reduceBEq, Int.reduceBNe, Int.reduceLT, Int.reduceLE, Int.reduceEq, Int.reduceGT, Int.reduceGE, Int.reduceToNat, ↓reduceIte, List.reduceReplicate, Nat.reduceAdd, Nat.reduceSub, Nat.reduceMul, Nat.reduceLT, Nat.reduceLeDiff, Nat.reduceBEq, Nat.reduceEqDiff, dn]
  refine CallOb.pureH (fun w' hp => hrdy _ w' hp) ?_
  rintro q N ⟨tv, rfl, htv⟩
  cases tv with
  | false =>
    refine ⟨?_⟩
    simp (config := { maxSteps := 4000000 }) only [↓sx0, ↓sx1, ↓sx2, ↓sx3, ↓sx4, ↓sx5, ↓sx6, sx0, sx1, sx2, sx3, sx4, sx5, sx6, tf13, ev3_hold, sxo, sxc, sxp, sxq, sxr, sxs, sxl, sxm, Int.reduceBEq, Int.reduceBNe, Int.reduceLT, Int.reduceLE, Int.reduceEq, Int.reduceGT, Int.reduceGE, Int.reduceToNat, ↓reduceIte, List.reduceReplicate, Nat.reduceAdd, Nat.reduceSub, Nat.reduceMul, Nat.reduceLT, Nat.reduceLeDiff, Nat.reduceBEq, Nat.reduceEqDiff, dn]
    refine CallOb.pureH (fun w' hp => hwk _ w' hp) ?_
    rintro rW NW rfl
    refine ⟨?_⟩
    simp (config := { maxSteps := 4000000 }) only [↓sx0, ↓sx1, ↓sx2, ↓sx3, ↓sx4, ↓sx5, ↓sx6, sx0, sx1, sx2, sx3, sx4, sx5, sx6, tf13, ev3_hold, sxo, sxc, sxp, sxq, sxr, sxs, sxl, sxm, Int.reduceBEq, Int.reduceBNe, Int.reduceLT, Int.reduceLE, Int.reduceEq, Int.reduceGT, Int.reduceGE, Int.reduceToNat, ↓reduceIte, List.reduceReplicate, Nat.reduceAdd, Nat.reduceSub, Nat.reduceMul, Nat.reduceLT, Nat.reduceLeDiff, Nat.reduceBEq, Nat.reduceEqDiff]
  | true =>
  obtain ⟨hfew, he⟩ := htv rfl
  simp only [] at he
  have hsm := few_small hfew
  have hok := Vg.of_ok he
  obtain ⟨hsta, htc, hts⟩ := goE_zero he
  obtain ⟨hcok, hcls, hrmp, htt, hff⟩ := staE_zero hsta
  have hrc := ramp_cell hrmp
  have hcb := (clsB_iff b).1 hcls
  have h60 := hcok.2.2.2.1
  have hwh : (c.depth.length : Int) = c.wide * c.high := hcok.2.2.1
  obtain ⟨_, _, d1, d2, d3⟩ := hcok.dims
  have hdl : c.depth.length ≤ 144 := by rw [d3]; exact Nat.le_trans (Nat.mul_le_mul d1.2 d2.2) (by decide)
  have ewh : IntKind.i64.wrap (c.wide * c.high) = (c.depth.length : Int) := by rw [← hwh]; exact wrap_id (by omega)
  by_cases c1 : (c.depth.length : Int) > 24
  · have p1 : ((c.depth.length : Int) > 24) = True := eq_true c1
    refine ⟨?_⟩
    simp (config := { maxSteps := 4000000 }) only [↓sx0, ↓sx1, ↓sx2, ↓sx3, ↓sx4, ↓sx5, ↓sx6, sx0, sx1, sx2, sx3, sx4, sx5, sx6, tf13, ev3_hold, sxo, sxc, sxp, sxq, sxr, sxs, sxl, sxm, Int.reduceBEq, Int.reduceBNe, Int.reduceLT, Int.reduceLE, Int.reduceEq, Int.reduceGT, Int.reduceGE, Int.reduceToNat, ↓reduceIte, List.reduceReplicate, Nat.reduceAdd, Nat.reduceSub, Nat.reduceMul, Nat.reduceLT, Nat.reduceLeDiff, Nat.reduceBEq, Nat.reduceEqDiff, dn, ewh, p1]
    refine CallOb.pureH (fun w' hp => hwk _ w' hp) ?_
    rintro rW NW rfl
    refine ⟨?_⟩
    simp (config := { maxSteps := 4000000 }) only [↓sx0, ↓sx1, ↓sx2, ↓sx3, ↓sx4, ↓sx5, ↓sx6, sx0, sx1, sx2, sx3, sx4, sx5, sx6, tf13, ev3_hold, sxo, sxc, sxp, sxq, sxr, sxs, sxl, sxm, Int.reduceBEq, Int.reduceBNe, Int.reduceLT, Int.reduceLE, Int.reduceEq, Int.reduceGT, Int.reduceGE, Int.reduceToNat, ↓reduceIte, List.reduceReplicate, Nat.reduceAdd, Nat.reduceSub, Nat.reduceMul, Nat.reduceLT, Nat.reduceLeDiff, Nat.reduceBEq, Nat.reduceEqDiff]
  have p1 : ((c.depth.length : Int) > 24) = False := eq_false c1
  by_cases c2 : (c.tide.length : Int) > 10
  · have p2 : ((c.tide.length : Int) > 10) = True := eq_true c2
    refine ⟨?_⟩
    simp (config := { maxSteps := 4000000 }) only [↓sx0, ↓sx1, ↓sx2, ↓sx3, ↓sx4, ↓sx5, ↓sx6, sx0, sx1, sx2, sx3, sx4, sx5, sx6, tf13, ev3_hold, sxo, sxc, sxp, sxq, sxr, sxs, sxl, sxm, Int.reduceBEq, Int.reduceBNe, Int.reduceLT, Int.reduceLE, Int.reduceEq, Int.reduceGT, Int.reduceGE, Int.reduceToNat, ↓reduceIte, List.reduceReplicate, Nat.reduceAdd, Nat.reduceSub, Nat.reduceMul, Nat.reduceLT, Nat.reduceLeDiff, Nat.reduceBEq, Nat.reduceEqDiff, dn, ewh, p1, p2]
    refine CallOb.pureH (fun w' hp => hwk _ w' hp) ?_
    rintro rW NW rfl
    refine ⟨?_⟩
    simp (config := { maxSteps := 4000000 }) only [↓sx0, ↓sx1, ↓sx2, ↓sx3, ↓sx4, ↓sx5, ↓sx6, sx0, sx1, sx2, sx3, sx4, sx5, sx6, tf13, ev3_hold, sxo, sxc, sxp, sxq, sxr, sxs, sxl, sxm, Int.reduceBEq, Int.reduceBNe, Int.reduceLT, Int.reduceLE, Int.reduceEq, Int.reduceGT, Int.reduceGE, Int.reduceToNat, ↓reduceIte, List.reduceReplicate, Nat.reduceAdd, Nat.reduceSub, Nat.reduceMul, Nat.reduceLT, Nat.reduceLeDiff, Nat.reduceBEq, Nat.reduceEqDiff]
  have p2 : ((c.tide.length : Int) > 10) = False := eq_false c2
  have hE0 : staE c b r t 0 = 0 := by
    unfold staE
    rw [if_pos ((okB_iff c).2 hcok), if_pos hcls, if_pos hrmp, (inB_iff _ _ _).2 htt, (inB_iff (0 : Int) 0 5000).2 (by omega)]
    rfl
  have hE00 : staE c b r 0 0 = 0 := by
    unfold staE
    rw [if_pos ((okB_iff c).2 hcok), if_pos hcls, if_pos hrmp, (inB_iff (0 : Int) 0 _).2 (by omega), (inB_iff (0 : Int) 0 5000).2 (by omega)]
    rfl
  have hEr : roE c b r t f ts = 0 := by
    unfold roE
    rw [if_pos hsta, (inB_iff _ _ _).2 hts]
    rfl
  have hEa : openE c [r.cell] [t] [b.draught] = 0 := by
    unfold openE notCell notTick notDraught
    rw [if_pos ((okB_iff c).2 hcok), if_neg]
    simp only [List.any_cons, List.any_nil, Bool.or_false, Bool.or_eq_true, Bool.not_eq_true', not_or, Bool.not_eq_false, inB_iff]
    omega
  obtain ⟨TC, rfl⟩ : ∃ T : Nat, tc = T := ⟨tc.toNat, by omega⟩
  have hrl : (reachL c b r t.toNat).length = c.depth.length := by
    unfold reachL
    split
    · rw [List.length_map, List.length_range]
    · rw [List.length_replicate]
  have hal : (arrL c b.draught r.cell.toNat t.toNat (c.tide.length - t.toNat)).length = c.depth.length := arrL_len _ _ _ _ _
  have hro1 := hro hsm
  have hgg1 := hgg hsm
  have hre1 := hre hsm
  have har1 := har hsm
  have hop1 := hop hsm
  refine ⟨?_⟩
  simp (config := { maxSteps := 4000000 }) only [↓sx0, ↓sx1, ↓sx2, ↓sx3, ↓sx4, ↓sx5, ↓sx6, sx0, sx1, sx2, sx3, sx4, sx5, sx6, tf13, ev3_hold, sxo, sxc, sxp, sxq, sxr, sxs, sxl, sxm, Int.reduceBEq, Int.reduceBNe, Int.reduceLT, Int.reduceLE, Int.reduceEq, Int.reduceGT, Int.reduceGE, Int.reduceToNat, ↓reduceIte, List.reduceReplicate, Nat.reduceAdd, Nat.reduceSub, Nat.reduceMul, Nat.reduceLT, Nat.reduceLeDiff, Nat.reduceBEq, Nat.reduceEqDiff, dn, ewh, p1, p2]
  refine CallOb.pureH (fun w' hp => hro1 _ w' hp) ?_
  rintro q N1 hG1
  rcases hG1 with ⟨h, _⟩ | ⟨_, x1, ws, rfl, hx1, hwl, hws⟩
  · exact absurd hEr h
  obtain ⟨a1, k1, hs1⟩ := hx1.shape
  rw [hwl] at hs1
  subst hs1
  refine ⟨?_⟩
  simp (config := { maxSteps := 4000000 }) only [↓sx0, ↓sx1, ↓sx2, ↓sx3, ↓sx4, ↓sx5, ↓sx6, sx0, sx1, sx2, sx3, sx4, sx5, sx6, tf13, ev3_hold, sxo, sxc, sxp, sxq, sxr, sxs, sxl, sxm, Int.reduceBEq, Int.reduceBNe, Int.reduceLT, Int.reduceLE, Int.reduceEq, Int.reduceGT, Int.reduceGE, Int.reduceToNat, ↓reduceIte, List.reduceReplicate, Nat.reduceAdd, Nat.reduceSub, Nat.reduceMul, Nat.reduceLT, Nat.reduceLeDiff, Nat.reduceBEq, Nat.reduceEqDiff, dn]
  refine CallOb.pureH (fun w' hp => hgg1 _ w' hp) ?_
  rintro q N2 hG2
  obtain ⟨why, a2, n2, k2, B2, rfl, hwhy⟩ := hG2.ans he
  refine ⟨?_⟩
  simp (config := { maxSteps := 4000000 }) only [↓sx0, ↓sx1, ↓sx2, ↓sx3, ↓sx4, ↓sx5, ↓sx6, sx0, sx1, sx2, sx3, sx4, sx5, sx6, tf13, ev3_hold, sxo, sxc, sxp, sxq, sxr, sxs, sxl, sxm, Int.reduceBEq, Int.reduceBNe, Int.reduceLT, Int.reduceLE, Int.reduceEq, Int.reduceGT, Int.reduceGE, Int.reduceToNat, ↓reduceIte, List.reduceReplicate, Nat.reduceAdd, Nat.reduceSub, Nat.reduceMul, Nat.reduceLT, Nat.reduceLeDiff, Nat.reduceBEq, Nat.reduceEqDiff, dn]
  refine CallOb.pureH (fun w' hp => hre1 _ w' hp) ?_
  rintro q N3 hG3
  rcases hG3 with ⟨h, _⟩ | ⟨_, x3, rfl, hx3⟩
  · exact absurd hE0 h
  obtain ⟨a3, k3, hs3⟩ := hx3.shape
  rw [hrl] at hs3
  subst hs3
  refine ⟨?_⟩
  simp (config := { maxSteps := 4000000 }) only [↓sx0, ↓sx1, ↓sx2, ↓sx3, ↓sx4, ↓sx5, ↓sx6, sx0, sx1, sx2, sx3, sx4, sx5, sx6, tf13, ev3_hold, sxo, sxc, sxp, sxq, sxr, sxs, sxl, sxm, Int.reduceBEq, Int.reduceBNe, Int.reduceLT, Int.reduceLE, Int.reduceEq, Int.reduceGT, Int.reduceGE, Int.reduceToNat, ↓reduceIte, List.reduceReplicate, Nat.reduceAdd, Nat.reduceSub, Nat.reduceMul, Nat.reduceLT, Nat.reduceLeDiff, Nat.reduceBEq, Nat.reduceEqDiff, dn]
  refine CallOb.pureH (fun w' hp => har1 _ w' hp) ?_
  rintro q N4 hG4
  rcases hG4 with ⟨h, _⟩ | ⟨_, x4, rfl, hx4⟩
  · exact absurd hEa h
  refine ⟨?_⟩
  simp (config := { maxSteps := 4000000 }) only [↓sx0, ↓sx1, ↓sx2, ↓sx3, ↓sx4, ↓sx5, ↓sx6, sx0, sx1, sx2, sx3, sx4, sx5, sx6, tf13, ev3_hold, sxo, sxc, sxp, sxq, sxr, sxs, sxl, sxm, Int.reduceBEq, Int.reduceBNe, Int.reduceLT, Int.reduceLE, Int.reduceEq, Int.reduceGT, Int.reduceGE, Int.reduceToNat, ↓reduceIte, List.reduceReplicate, Nat.reduceAdd, Nat.reduceSub, Nat.reduceMul, Nat.reduceLT, Nat.reduceLeDiff, Nat.reduceBEq, Nat.reduceEqDiff, dn]
  refine CallOb.pureH (fun w' hp => hop1 _ w' hp) ?_
  rintro q N5 hG5
  rcases hG5 with ⟨h, _⟩ | ⟨_, x5, rfl, hx5⟩
  · exact absurd hE00 h
  have hSa := (winL_ok (rdyB c b r) c.tide.length).2 t.toNat
  obtain ⟨S, hS⟩ : ∃ S, winL (rdyB c b r) c.tide.length = S := ⟨_, rfl⟩
  have hSl := winL_len (rdyB c b r) c.tide.length
  rw [hS] at hx5 hSa hSl
  rw [decide_eq_true (by omega), Bool.true_and, Int.toNat_of_nonneg htt.1] at hSa
  obtain ⟨a5, k5, rfl⟩ := hx5.shape
  have hr1 := hx1.rdv (w0 := ⟨w, fun _ => False⟩) (H := N5 ++ (N4 ++ (N3 ++ (N2 ++ (N1 ++ N))))) i1_len (by simp +contextual)
  have hr3 := hx3.rdv (w0 := ⟨w, fun _ => False⟩) (H := N5 ++ (N4 ++ (N3 ++ (N2 ++ (N1 ++ N))))) i1_len (by simp +contextual)
  have hr4 := row_rdv (w0 := ⟨w, fun _ => False⟩) (H := N5 ++ (N4 ++ (N3 ++ (N2 ++ (N1 ++ N))))) (List.mem_append_right _ (List.mem_append_left _ hx4)) ⟨_, _, _, rfl, by rw [cat_len i1_len, hal], fun h => by cases h⟩
  have hr5 := hx5.rdv (w0 := ⟨w, fun _ => False⟩) (H := N5 ++ (N4 ++ (N3 ++ (N2 ++ (N1 ++ N))))) spc_len (by simp +contextual)
  have hfc := fun (k : Nat) (hk : k < c.depth.length) => reach_facts he hws hk
  have hTCl : TC < c.depth.length := by omega
  have hwc : ws[TC]? = some (ws.getD TC 0) := getD_at (by omega) 0
  have heq : (ws.getD TC 0 = why) = True := eq_true ((hws TC hTCl).uniq hwhy)
  obtain ⟨F1, G1⟩ : ∃ F1 : Nat → Bool, ∀ i, F1 i = (S.take i).any (inW t) := ⟨_, fun _ => rfl⟩
  have z1 : F1 0 = false := by rw [G1]; rfl
  have e1 : F1 S.length = rdyB c b r t.toNat := by rw [G1, List.take_length]; exact hSa
  have s1 : ∀ i p, S[i]? = some p → F1 (i + 1) = (F1 i || inW t p) := fun i p h => by rw [G1, G1]; exact inW_take2 h
  clear G1 hSa
  refine ⟨?_⟩
  simp (config := { maxSteps := 4000000 }) only [↓sx0, ↓sx1, ↓sx2, ↓sx3, ↓sx4, ↓sx5, ↓sx6, sx0, sx1, sx2, sx3, sx4, sx5, sx6, tf13, ev3_hold, sxo, sxc, sxp, sxq, sxr, sxs, sxl, sxm, Int.reduceBEq, Int.reduceBNe, Int.reduceLT, Int.reduceLE, Int.reduceEq, Int.reduceGT, Int.reduceGE, Int.reduceToNat, ↓reduceIte, List.reduceReplicate, Nat.reduceAdd, Nat.reduceSub, Nat.reduceMul, Nat.reduceLT, Nat.reduceLeDiff, Nat.reduceBEq, Nat.reduceEqDiff, hce, ewh, dn]
  refine at_1 hr1 i1_len hwc rfl fun ad1 => ?_
  simp (config := { maxSteps := 4000000 }) only [↓sx0, ↓sx1, ↓sx2, ↓sx3, ↓sx4, ↓sx5, ↓sx6, sx0, sx1, sx2, sx3, sx4, sx5, sx6, tf13, ev3_hold, sxo, sxc, sxp, sxq, sxr, sxs, sxl, sxm, Int.reduceBEq, Int.reduceBNe, Int.reduceLT, Int.reduceLE, Int.reduceEq, Int.reduceGT, Int.reduceGE, Int.reduceToNat, ↓reduceIte, List.reduceReplicate, Nat.reduceAdd, Nat.reduceSub, Nat.reduceMul, Nat.reduceLT, Nat.reduceLeDiff, Nat.reduceBEq, Nat.reduceEqDiff, heq]
  refine loop_constH (N5 ++ (N4 ++ (N3 ++ (N2 ++ (N1 ++ N))))) (HImp.refl _ _) [(18, 19), (150, 176)] (fun i : Nat => [(18, .bool (F1 i)), (19, I i)])
    (fun i H1 => i ≤ S.length ∧ H1 = N5 ++ (N4 ++ (N3 ++ (N2 ++ (N1 ++ N))))) (fun i => S.length - i) 0 ?_ ⟨Nat.zero_le _, rfl⟩ ?_
  · simp (config := { maxSteps := 4000000 }) only [↓sx0, ↓sx1, ↓sx2, ↓sx3, ↓sx4, ↓sx5, ↓sx6, sx0, sx1, sx2, sx3, sx4, sx5, sx6, tf13, ev3_hold, sxo, sxc, sxp, sxq, sxr, sxs, sxl, sxm, Int.reduceBEq, Int.reduceBNe, Int.reduceLT, Int.reduceLE, Int.reduceEq, Int.reduceGT, Int.reduceGE, Int.reduceToNat, ↓reduceIte, List.reduceReplicate, Nat.reduceAdd, Nat.reduceSub, Nat.reduceMul, Nat.reduceLT, Nat.reduceLeDiff, Nat.reduceBEq, Nat.reduceEqDiff, z1]
    try simp
  rintro i H1 g1 ⟨hi, hH1⟩
  have hH2 := hH1.symm
  subst hH2
  by_cases hil : i = S.length
  case neg =>
    have k1 : ((i : Int) < (S.length : Int)) = True := eq_true (by omega)
    have k2 : IntKind.i64.wrap ((i : Int) + 1) = ((i + 1 : Nat) : Int) := (wrap_id (by omega)).trans (by omega)
    obtain ⟨p, hpp⟩ : ∃ p, S[i]? = some p := ⟨_, List.getElem?_eq_getElem (by omega)⟩
    have hn1 := s1 i p hpp
    rcases Bool.eq_false_or_eq_true (F1 i) with hf | hf
    · refine ⟨?_⟩
      simp (config := { maxSteps := 4000000 }) only [↓sx0, ↓sx1, ↓sx2, ↓sx3, ↓sx4, ↓sx5, ↓sx6, sx0, sx1, sx2, sx3, sx4, sx5, sx6, tf13, ev3_hold, sxo, sxc, sxp, sxq, sxr, sxs, sxl, sxm, Int.reduceBEq, Int.reduceBNe, Int.reduceLT, Int.reduceLE, Int.reduceEq, Int.reduceGT, Int.reduceGE, Int.reduceToNat, ↓reduceIte, List.reduceReplicate, Nat.reduceAdd, Nat.reduceSub, Nat.reduceMul, Nat.reduceLT, Nat.reduceLeDiff, Nat.reduceBEq, Nat.reduceEqDiff, k1, hf, k2]
      exact ⟨i + 1, _, ⟨by rw [hn1, hf]; rfl, rfl⟩, HImp.refl _ _, ⟨by omega, rfl⟩, by omega⟩
    by_cases c1 : p.1 ≤ t
    · have p1 : (p.1 ≤ t) = True := eq_true c1
      refine ⟨?_⟩
      simp (config := { maxSteps := 4000000 }) only [↓sx0, ↓sx1, ↓sx2, ↓sx3, ↓sx4, ↓sx5, ↓sx6, sx0, sx1, sx2, sx3, sx4, sx5, sx6, tf13, ev3_hold, sxo, sxc, sxp, sxq, sxr, sxs, sxl, sxm, Int.reduceBEq, Int.reduceBNe, Int.reduceLT, Int.reduceLE, Int.reduceEq, Int.reduceGT, Int.reduceGE, Int.reduceToNat, ↓reduceIte, List.reduceReplicate, Nat.reduceAdd, Nat.reduceSub, Nat.reduceMul, Nat.reduceLT, Nat.reduceLeDiff, Nat.reduceBEq, Nat.reduceEqDiff, k1, hf]
      refine amid (at_f hr5 spc_len hpp (o := 0) (x := I p.1) rfl fun ad1 => ?_)
      simp (config := { maxSteps := 4000000 }) only [↓sx0, ↓sx1, ↓sx2, ↓sx3, ↓sx4, ↓sx5, ↓sx6, sx0, sx1, sx2, sx3, sx4, sx5, sx6, tf13, ev3_hold, sxo, sxc, sxp, sxq, sxr, sxs, sxl, sxm, Int.reduceBEq, Int.reduceBNe, Int.reduceLT, Int.reduceLE, Int.reduceEq, Int.reduceGT, Int.reduceGE, Int.reduceToNat, ↓reduceIte, List.reduceReplicate, Nat.reduceAdd, Nat.reduceSub, Nat.reduceMul, Nat.reduceLT, Nat.reduceLeDiff, Nat.reduceBEq, Nat.reduceEqDiff, p1]
      refine at_f hr5 spc_len hpp (o := 1) (x := I p.2) rfl fun ad2 => ?_
      simp (config := { maxSteps := 4000000 }) only [↓sx0, ↓sx1, ↓sx2, ↓sx3, ↓sx4, ↓sx5, ↓sx6, sx0, sx1, sx2, sx3, sx4, sx5, sx6, tf13, ev3_hold, sxo, sxc, sxp, sxq, sxr, sxs, sxl, sxm, Int.reduceBEq, Int.reduceBNe, Int.reduceLT, Int.reduceLE, Int.reduceEq, Int.reduceGT, Int.reduceGE, Int.reduceToNat, ↓reduceIte, List.reduceReplicate, Nat.reduceAdd, Nat.reduceSub, Nat.reduceMul, Nat.reduceLT, Nat.reduceLeDiff, Nat.reduceBEq, Nat.reduceEqDiff, k2]
      exact ⟨i + 1, _, ⟨by rw [hn1, hf]; unfold inW; rw [decide_eq_true c1]; simp, rfl⟩, HImp.refl _ _, ⟨by omega, rfl⟩, by omega⟩
    · have p1 : (p.1 ≤ t) = False := eq_false c1
      refine ⟨?_⟩
      simp (config := { maxSteps := 4000000 }) only [↓sx0, ↓sx1, ↓sx2, ↓sx3, ↓sx4, ↓sx5, ↓sx6, sx0, sx1, sx2, sx3, sx4, sx5, sx6, tf13, ev3_hold, sxo, sxc, sxp, sxq, sxr, sxs, sxl, sxm, Int.reduceBEq, Int.reduceBNe, Int.reduceLT, Int.reduceLE, Int.reduceEq, Int.reduceGT, Int.reduceGE, Int.reduceToNat, ↓reduceIte, List.reduceReplicate, Nat.reduceAdd, Nat.reduceSub, Nat.reduceMul, Nat.reduceLT, Nat.reduceLeDiff, Nat.reduceBEq, Nat.reduceEqDiff, k1, hf]
      refine amid (at_f hr5 spc_len hpp (o := 0) (x := I p.1) rfl fun ad1 => ?_)
      simp (config := { maxSteps := 4000000 }) only [↓sx0, ↓sx1, ↓sx2, ↓sx3, ↓sx4, ↓sx5, ↓sx6, sx0, sx1, sx2, sx3, sx4, sx5, sx6, tf13, ev3_hold, sxo, sxc, sxp, sxq, sxr, sxs, sxl, sxm, Int.reduceBEq, Int.reduceBNe, Int.reduceLT, Int.reduceLE, Int.reduceEq, Int.reduceGT, Int.reduceGE, Int.reduceToNat, ↓reduceIte, List.reduceReplicate, Nat.reduceAdd, Nat.reduceSub, Nat.reduceMul, Nat.reduceLT, Nat.reduceLeDiff, Nat.reduceBEq, Nat.reduceEqDiff, p1, k2]
      exact ⟨i + 1, _, ⟨by rw [hn1, hf]; unfold inW; rw [decide_eq_false c1]; rfl, rfl⟩, HImp.refl _ _, ⟨by omega, rfl⟩, by omega⟩
  subst hil
  have k1 : ((S.length : Int) < (S.length : Int)) = False := eq_false (by omega)
  refine ⟨?_⟩
  simp (config := { maxSteps := 4000000 }) only [↓sx0, ↓sx1, ↓sx2, ↓sx3, ↓sx4, ↓sx5, ↓sx6, sx0, sx1, sx2, sx3, sx4, sx5, sx6, tf13, ev3_hold, sxo, sxc, sxp, sxq, sxr, sxs, sxl, sxm, Int.reduceBEq, Int.reduceBNe, Int.reduceLT, Int.reduceLE, Int.reduceEq, Int.reduceGT, Int.reduceGE, Int.reduceToNat, ↓reduceIte, List.reduceReplicate, Nat.reduceAdd, Nat.reduceSub, Nat.reduceMul, Nat.reduceLT, Nat.reduceLeDiff, Nat.reduceBEq, Nat.reduceEqDiff, k1]
  have hH0 : ∀ k, k < c.depth.length → ws[k]? = some (ws.getD k 0) ∧ (reachL c b r t.toNat)[k]? = some ((reachL c b r t.toNat).getD k 0) ∧ (arrL c b.draught r.cell.toNat t.toNat (c.tide.length - t.toNat))[k]? = some ((arrL c b.draught r.cell.toNat t.toNat (c.tide.length - t.toNat)).getD k 0) := fun k hk => ⟨getD_at (by omega) 0, getD_at (by omega) 0, getD_at (by omega) 0⟩
  obtain ⟨A, hA⟩ : ∃ A : Nat → Int, ∀ k, ws.getD k 0 = A k := ⟨_, fun _ => rfl⟩
  obtain ⟨R, hR⟩ : ∃ R : Nat → Int, ∀ k, (reachL c b r t.toNat).getD k 0 = R k := ⟨_, fun _ => rfl⟩
  obtain ⟨Q, hQ⟩ : ∃ Q : Nat → Int, ∀ k, (arrL c b.draught r.cell.toNat t.toNat (c.tide.length - t.toNat)).getD k 0 = Q k := ⟨_, fun _ => rfl⟩
  simp only [hA, hR, hQ] at hH0 hfc
  refine loop_constH (N5 ++ (N4 ++ (N3 ++ (N2 ++ (N1 ++ N))))) (HImp.refl _ _) [(6, 6), (20, 20), (177, 230)] (fun i : Nat => [(20, I i)])
    (fun i H1 => i ≤ c.depth.length ∧ H1 = N5 ++ (N4 ++ (N3 ++ (N2 ++ (N1 ++ N))))) (fun i => c.depth.length - i) 0 ?_ ⟨Nat.zero_le _, rfl⟩ ?_
  · simp (config := { maxSteps := 4000000 }) only [↓sx0, ↓sx1, ↓sx2, ↓sx3, ↓sx4, ↓sx5, ↓sx6, sx0, sx1, sx2, sx3, sx4, sx5, sx6, tf13, ev3_hold, sxo, sxc, sxp, sxq, sxr, sxs, sxl, sxm, Int.reduceBEq, Int.reduceBNe, Int.reduceLT, Int.reduceLE, Int.reduceEq, Int.reduceGT, Int.reduceGE, Int.reduceToNat, ↓reduceIte, List.reduceReplicate, Nat.reduceAdd, Nat.reduceSub, Nat.reduceMul, Nat.reduceLT, Nat.reduceLeDiff, Nat.reduceBEq, Nat.reduceEqDiff]
    try simp
  rintro k H1 g1 ⟨hk, hH1⟩
  have hH2 := hH1.symm
  subst hH2
  by_cases hkl : k = c.depth.length
  · have k1 : ((k : Int) < (c.depth.length : Int)) = False := eq_false (by omega)
    refine ⟨?_⟩
    simp (config := { maxSteps := 4000000 }) only [↓sx0, ↓sx1, ↓sx2, ↓sx3, ↓sx4, ↓sx5, ↓sx6, sx0, sx1, sx2, sx3, sx4, sx5, sx6, tf13, ev3_hold, sxo, sxc, sxp, sxq, sxr, sxs, sxl, sxm, Int.reduceBEq, Int.reduceBNe, Int.reduceLT, Int.reduceLE, Int.reduceEq, Int.reduceGT, Int.reduceGE, Int.reduceToNat, ↓reduceIte, List.reduceReplicate, Nat.reduceAdd, Nat.reduceSub, Nat.reduceMul, Nat.reduceLT, Nat.reduceLeDiff, Nat.reduceBEq, Nat.reduceEqDiff, k1, dn]
    refine CallOb.pureH (fun w' hp => hwk _ w' hp) ?_
    rintro rW NW rfl
    refine ⟨?_⟩
    simp (config := { maxSteps := 4000000 }) only [↓sx0, ↓sx1, ↓sx2, ↓sx3, ↓sx4, ↓sx5, ↓sx6, sx0, sx1, sx2, sx3, sx4, sx5, sx6, tf13, ev3_hold, sxo, sxc, sxp, sxq, sxr, sxs, sxl, sxm, Int.reduceBEq, Int.reduceBNe, Int.reduceLT, Int.reduceLE, Int.reduceEq, Int.reduceGT, Int.reduceGE, Int.reduceToNat, ↓reduceIte, List.reduceReplicate, Nat.reduceAdd, Nat.reduceSub, Nat.reduceMul, Nat.reduceLT, Nat.reduceLeDiff, Nat.reduceBEq, Nat.reduceEqDiff]
  have k1 : ((k : Int) < (c.depth.length : Int)) = True := eq_true (by omega)
  have k2 : IntKind.i64.wrap ((k : Int) + 1) = ((k + 1 : Nat) : Int) := (wrap_id (by omega)).trans (by omega)
  obtain ⟨u1, u3, u4⟩ := hH0 k (by omega)
  obtain ⟨f1, f2, f3, f4⟩ := hfc k (by omega)
  have nb : ((true != true) = false) ∧ ((false != false) = false) ∧ ((true == true) = true) ∧ ((false == false) = true) ∧ ((!true) = false) := ⟨rfl, rfl, rfl, rfl, rfl⟩
  rcases Bool.eq_false_or_eq_true (rdyB c b r t.toNat) with hrd | hrd
  · have hF : F1 S.length = true := by rw [e1, hrd]
    have y1 : (A k = 1) = False := eq_false (fun h => by rw [f1.1 h] at hrd; cases hrd)
    by_cases hRn : R k < 0
    · have y2 : (A k = 2) = True := eq_true ((f2 hrd).2 hRn)
      have y3 : (R k < 0) = True := eq_true hRn
      have y4 : (R k ≥ 0) = False := eq_false (by omega)
      refine ⟨?_⟩
      simp (config := { maxSteps := 4000000 }) only [↓sx0, ↓sx1, ↓sx2, ↓sx3, ↓sx4, ↓sx5, ↓sx6, sx0, sx1, sx2, sx3, sx4, sx5, sx6, tf13, ev3_hold, sxo, sxc, sxp, sxq, sxr, sxs, sxl, sxm, Int.reduceBEq, Int.reduceBNe, Int.reduceLT, Int.reduceLE, Int.reduceEq, Int.reduceGT, Int.reduceGE, Int.reduceToNat, ↓reduceIte, List.reduceReplicate, Nat.reduceAdd, Nat.reduceSub, Nat.reduceMul, Nat.reduceLT, Nat.reduceLeDiff, Nat.reduceBEq, Nat.reduceEqDiff, k1]
      refine amid (at_1 hr1 i1_len u1 rfl fun ad1 => ?_)
      simp (config := { maxSteps := 4000000 }) only [↓sx0, ↓sx1, ↓sx2, ↓sx3, ↓sx4, ↓sx5, ↓sx6, sx0, sx1, sx2, sx3, sx4, sx5, sx6, tf13, ev3_hold, sxo, sxc, sxp, sxq, sxr, sxs, sxl, sxm, Int.reduceBEq, Int.reduceBNe, Int.reduceLT, Int.reduceLE, Int.reduceEq, Int.reduceGT, Int.reduceGE, Int.reduceToNat, ↓reduceIte, List.reduceReplicate, Nat.reduceAdd, Nat.reduceSub, Nat.reduceMul, Nat.reduceLT, Nat.reduceLeDiff, Nat.reduceBEq, Nat.reduceEqDiff, y1, hF, nb]
      refine at_1 hr1 i1_len u1 rfl fun ad2 => ?_
      simp (config := { maxSteps := 4000000 }) only [↓sx0, ↓sx1, ↓sx2, ↓sx3, ↓sx4, ↓sx5, ↓sx6, sx0, sx1, sx2, sx3, sx4, sx5, sx6, tf13, ev3_hold, sxo, sxc, sxp, sxq, sxr, sxs, sxl, sxm, Int.reduceBEq, Int.reduceBNe, Int.reduceLT, Int.reduceLE, Int.reduceEq, Int.reduceGT, Int.reduceGE, Int.reduceToNat, ↓reduceIte, List.reduceReplicate, Nat.reduceAdd, Nat.reduceSub, Nat.reduceMul, Nat.reduceLT, Nat.reduceLeDiff, Nat.reduceBEq, Nat.reduceEqDiff, y2, hF, nb]
      refine at_1 hr3 i1_len u3 rfl fun ad3 => ?_
      simp (config := { maxSteps := 4000000 }) only [↓sx0, ↓sx1, ↓sx2, ↓sx3, ↓sx4, ↓sx5, ↓sx6, sx0, sx1, sx2, sx3, sx4, sx5, sx6, tf13, ev3_hold, sxo, sxc, sxp, sxq, sxr, sxs, sxl, sxm, Int.reduceBEq, Int.reduceBNe, Int.reduceLT, Int.reduceLE, Int.reduceEq, Int.reduceGT, Int.reduceGE, Int.reduceToNat, ↓reduceIte, List.reduceReplicate, Nat.reduceAdd, Nat.reduceSub, Nat.reduceMul, Nat.reduceLT, Nat.reduceLeDiff, Nat.reduceBEq, Nat.reduceEqDiff, y2, y3, hF, nb]
      refine at_1 hr3 i1_len u3 rfl fun ad4 => ?_
      simp (config := { maxSteps := 4000000 }) only [↓sx0, ↓sx1, ↓sx2, ↓sx3, ↓sx4, ↓sx5, ↓sx6, sx0, sx1, sx2, sx3, sx4, sx5, sx6, tf13, ev3_hold, sxo, sxc, sxp, sxq, sxr, sxs, sxl, sxm, Int.reduceBEq, Int.reduceBNe, Int.reduceLT, Int.reduceLE, Int.reduceEq, Int.reduceGT, Int.reduceGE, Int.reduceToNat, ↓reduceIte, List.reduceReplicate, Nat.reduceAdd, Nat.reduceSub, Nat.reduceMul, Nat.reduceLT, Nat.reduceLeDiff, Nat.reduceBEq, Nat.reduceEqDiff, y2, y3, y4, k2, hF, nb]
      first | exact ⟨k + 1, _, ⟨by rw [hF], rfl⟩, HImp.refl _ _, ⟨by omega, rfl⟩, by omega⟩ | exact ⟨k + 1, _, rfl, HImp.refl _ _, ⟨by omega, rfl⟩, by omega⟩
    · have y2 : (A k = 2) = False := eq_false (fun h => hRn ((f2 hrd).1 h))
      have y3 : (R k < 0) = False := eq_false hRn
      have y4 : (R k ≥ 0) = True := eq_true (by omega)
      have f5 := f4 (by omega)
      have y5 : (Q k < 0) = False := eq_false (by omega)
      have y6 : (R k < Q k) = False := eq_false (by omega)
      refine ⟨?_⟩
      simp (config := { maxSteps := 4000000 }) only [↓sx0, ↓sx1, ↓sx2, ↓sx3, ↓sx4, ↓sx5, ↓sx6, sx0, sx1, sx2, sx3, sx4, sx5, sx6, tf13, ev3_hold, sxo, sxc, sxp, sxq, sxr, sxs, sxl, sxm, Int.reduceBEq, Int.reduceBNe, Int.reduceLT, Int.reduceLE, Int.reduceEq, Int.reduceGT, Int.reduceGE, Int.reduceToNat, ↓reduceIte, List.reduceReplicate, Nat.reduceAdd, Nat.reduceSub, Nat.reduceMul, Nat.reduceLT, Nat.reduceLeDiff, Nat.reduceBEq, Nat.reduceEqDiff, k1]
      refine amid (at_1 hr1 i1_len u1 rfl fun ad1 => ?_)
      simp (config := { maxSteps := 4000000 }) only [↓sx0, ↓sx1, ↓sx2, ↓sx3, ↓sx4, ↓sx5, ↓sx6, sx0, sx1, sx2, sx3, sx4, sx5, sx6, tf13, ev3_hold, sxo, sxc, sxp, sxq, sxr, sxs, sxl, sxm, Int.reduceBEq, Int.reduceBNe, Int.reduceLT, Int.reduceLE, Int.reduceEq, Int.reduceGT, Int.reduceGE, Int.reduceToNat, ↓reduceIte, List.reduceReplicate, Nat.reduceAdd, Nat.reduceSub, Nat.reduceMul, Nat.reduceLT, Nat.reduceLeDiff, Nat.reduceBEq, Nat.reduceEqDiff, y1, hF, nb]
      refine at_1 hr1 i1_len u1 rfl fun ad2 => ?_
      simp (config := { maxSteps := 4000000 }) only [↓sx0, ↓sx1, ↓sx2, ↓sx3, ↓sx4, ↓sx5, ↓sx6, sx0, sx1, sx2, sx3, sx4, sx5, sx6, tf13, ev3_hold, sxo, sxc, sxp, sxq, sxr, sxs, sxl, sxm, Int.reduceBEq, Int.reduceBNe, Int.reduceLT, Int.reduceLE, Int.reduceEq, Int.reduceGT, Int.reduceGE, Int.reduceToNat, ↓reduceIte, List.reduceReplicate, Nat.reduceAdd, Nat.reduceSub, Nat.reduceMul, Nat.reduceLT, Nat.reduceLeDiff, Nat.reduceBEq, Nat.reduceEqDiff, y2, hF, nb]
      refine at_1 hr3 i1_len u3 rfl fun ad3 => ?_
      simp (config := { maxSteps := 4000000 }) only [↓sx0, ↓sx1, ↓sx2, ↓sx3, ↓sx4, ↓sx5, ↓sx6, sx0, sx1, sx2, sx3, sx4, sx5, sx6, tf13, ev3_hold, sxo, sxc, sxp, sxq, sxr, sxs, sxl, sxm, Int.reduceBEq, Int.reduceBNe, Int.reduceLT, Int.reduceLE, Int.reduceEq, Int.reduceGT, Int.reduceGE, Int.reduceToNat, ↓reduceIte, List.reduceReplicate, Nat.reduceAdd, Nat.reduceSub, Nat.reduceMul, Nat.reduceLT, Nat.reduceLeDiff, Nat.reduceBEq, Nat.reduceEqDiff, y2, y3, hF, nb]
      refine at_1 hr3 i1_len u3 rfl fun ad4 => ?_
      simp (config := { maxSteps := 4000000 }) only [↓sx0, ↓sx1, ↓sx2, ↓sx3, ↓sx4, ↓sx5, ↓sx6, sx0, sx1, sx2, sx3, sx4, sx5, sx6, tf13, ev3_hold, sxo, sxc, sxp, sxq, sxr, sxs, sxl, sxm, Int.reduceBEq, Int.reduceBNe, Int.reduceLT, Int.reduceLE, Int.reduceEq, Int.reduceGT, Int.reduceGE, Int.reduceToNat, ↓reduceIte, List.reduceReplicate, Nat.reduceAdd, Nat.reduceSub, Nat.reduceMul, Nat.reduceLT, Nat.reduceLeDiff, Nat.reduceBEq, Nat.reduceEqDiff, y2, y3, y4, hF, nb]
      refine at_1 hr4 i1_len u4 rfl fun ad5 => ?_
      simp (config := { maxSteps := 4000000 }) only [↓sx0, ↓sx1, ↓sx2, ↓sx3, ↓sx4, ↓sx5, ↓sx6, sx0, sx1, sx2, sx3, sx4, sx5, sx6, tf13, ev3_hold, sxo, sxc, sxp, sxq, sxr, sxs, sxl, sxm, Int.reduceBEq, Int.reduceBNe, Int.reduceLT, Int.reduceLE, Int.reduceEq, Int.reduceGT, Int.reduceGE, Int.reduceToNat, ↓reduceIte, List.reduceReplicate, Nat.reduceAdd, Nat.reduceSub, Nat.reduceMul, Nat.reduceLT, Nat.reduceLeDiff, Nat.reduceBEq, Nat.reduceEqDiff, y5, hF, nb]
      refine at_1 hr3 i1_len u3 rfl fun ad6 => ?_
      simp (config := { maxSteps := 4000000 }) only [↓sx0, ↓sx1, ↓sx2, ↓sx3, ↓sx4, ↓sx5, ↓sx6, sx0, sx1, sx2, sx3, sx4, sx5, sx6, tf13, ev3_hold, sxo, sxc, sxp, sxq, sxr, sxs, sxl, sxm, Int.reduceBEq, Int.reduceBNe, Int.reduceLT, Int.reduceLE, Int.reduceEq, Int.reduceGT, Int.reduceGE, Int.reduceToNat, ↓reduceIte, List.reduceReplicate, Nat.reduceAdd, Nat.reduceSub, Nat.reduceMul, Nat.reduceLT, Nat.reduceLeDiff, Nat.reduceBEq, Nat.reduceEqDiff, hF]
      refine at_1 hr4 i1_len u4 rfl fun ad7 => ?_
      simp (config := { maxSteps := 4000000 }) only [↓sx0, ↓sx1, ↓sx2, ↓sx3, ↓sx4, ↓sx5, ↓sx6, sx0, sx1, sx2, sx3, sx4, sx5, sx6, tf13, ev3_hold, sxo, sxc, sxp, sxq, sxr, sxs, sxl, sxm, Int.reduceBEq, Int.reduceBNe, Int.reduceLT, Int.reduceLE, Int.reduceEq, Int.reduceGT, Int.reduceGE, Int.reduceToNat, ↓reduceIte, List.reduceReplicate, Nat.reduceAdd, Nat.reduceSub, Nat.reduceMul, Nat.reduceLT, Nat.reduceLeDiff, Nat.reduceBEq, Nat.reduceEqDiff, y2, y3, y5, y6, k2, hF, nb]
      first | exact ⟨k + 1, _, ⟨by rw [hF], rfl⟩, HImp.refl _ _, ⟨by omega, rfl⟩, by omega⟩ | exact ⟨k + 1, _, rfl, HImp.refl _ _, ⟨by omega, rfl⟩, by omega⟩
  · have hF : F1 S.length = false := by rw [e1, hrd]
    have y1 : (A k = 1) = True := eq_true (f1.2 hrd)
    have f6 := f3 hrd
    have y4 : (R k ≥ 0) = False := eq_false (by omega)
    refine ⟨?_⟩
    simp (config := { maxSteps := 4000000 }) only [↓sx0, ↓sx1, ↓sx2, ↓sx3, ↓sx4, ↓sx5, ↓sx6, sx0, sx1, sx2, sx3, sx4, sx5, sx6, tf13, ev3_hold, sxo, sxc, sxp, sxq, sxr, sxs, sxl, sxm, Int.reduceBEq, Int.reduceBNe, Int.reduceLT, Int.reduceLE, Int.reduceEq, Int.reduceGT, Int.reduceGE, Int.reduceToNat, ↓reduceIte, List.reduceReplicate, Nat.reduceAdd, Nat.reduceSub, Nat.reduceMul, Nat.reduceLT, Nat.reduceLeDiff, Nat.reduceBEq, Nat.reduceEqDiff, k1]
    refine amid (at_1 hr1 i1_len u1 rfl fun ad1 => ?_)
    simp (config := { maxSteps := 4000000 }) only [↓sx0, ↓sx1, ↓sx2, ↓sx3, ↓sx4, ↓sx5, ↓sx6, sx0, sx1, sx2, sx3, sx4, sx5, sx6, tf13, ev3_hold, sxo, sxc, sxp, sxq, sxr, sxs, sxl, sxm, Int.reduceBEq, Int.reduceBNe, Int.reduceLT, Int.reduceLE, Int.reduceEq, Int.reduceGT, Int.reduceGE, Int.reduceToNat, ↓reduceIte, List.reduceReplicate, Nat.reduceAdd, Nat.reduceSub, Nat.reduceMul, Nat.reduceLT, Nat.reduceLeDiff, Nat.reduceBEq, Nat.reduceEqDiff, y1, hF, nb]
    refine at_1 hr3 i1_len u3 rfl fun ad4 => ?_
    simp (config := { maxSteps := 4000000 }) only [↓sx0, ↓sx1, ↓sx2, ↓sx3, ↓sx4, ↓sx5, ↓sx6, sx0, sx1, sx2, sx3, sx4, sx5, sx6, tf13, ev3_hold, sxo, sxc, sxp, sxq, sxr, sxs, sxl, sxm, Int.reduceBEq, Int.reduceBNe, Int.reduceLT, Int.reduceLE, Int.reduceEq, Int.reduceGT, Int.reduceGE, Int.reduceToNat, ↓reduceIte, List.reduceReplicate, Nat.reduceAdd, Nat.reduceSub, Nat.reduceMul, Nat.reduceLT, Nat.reduceLeDiff, Nat.reduceBEq, Nat.reduceEqDiff, y1, y4, k2, hF, nb]
    first | exact ⟨k + 1, _, ⟨by rw [hF], rfl⟩, HImp.refl _ _, ⟨by omega, rfl⟩, by omega⟩ | exact ⟨k + 1, _, rfl, HImp.refl _ _, ⟨by omega, rfl⟩, by omega⟩

end Go.Proofs.YtcnlbnccbnapbaaDoor
