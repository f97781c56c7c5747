/- A part of a proof: the symbolic walk and what it shows of single functions. -/
import Derived.Test.YtcnlbnccbnapbaaDoorSsG
set_option linter.all false
namespace Go.Proofs.YtcnlbnccbnapbaaDoor
open Go.RowKit Go.SX
set_option maxRecDepth 10000
set_option maxHeartbeats 0
set_option linter.unusedSimpArgs false
set_option linter.unusedVariables false
theorem rreason2_fn (w : World) (hw : Ways w) (v : Value) (c : Cht) (hc : ChOk w v c) (b : Cls) (r : Rmp) (t f tc ts : Int) (he : goE c b r t f tc ts = 0) :
    SX.Fn Tryd.prog 48 [v, clv b, rmv r, I t, I f, .agg #[I tc, I ts]] w (fun _ => False) fun q N => ∃ why bn en, q = .tuple #[I why, I bn, I en] ∧ ReasonP (Vg.of c b r t tc ts) (rdyB c b r) f why bn en := by
  have hok := Vg.of_ok he
  obtain ⟨hsta, htc, hts⟩ := goE_zero he
  obtain ⟨_, hcls, hrmp, htt, hff⟩ := staE_zero hsta
  have hrc := ramp_cell hrmp
  have h1 := rreason_fn w hw v (Vg.of c b r t tc ts) hok hc r hrmp (show r.cell = ((r.cell.toNat : Nat) : Int) by omega) f hff
  have e1 : (((Vg.of c b r t tc ts).t : Nat) : Int) = t := Int.toNat_of_nonneg htt.1
  have e2 : (((Vg.of c b r t tc ts).tc : Nat) : Int) = tc := Int.toNat_of_nonneg htc.1
  have e3 : (((Vg.of c b r t tc ts).ts : Nat) : Int) = ts := Int.toNat_of_nonneg hts.1
  rw [e1, e2, e3] at h1
  exact h1
theorem rDecide_fn (w : World) (hw : Ways w) (v : Value) (c : Cht) (hc : ChOk w v c) (hsm : c.small) (b : Cls) (r : Rmp) (t f tc ts : Int) :
    SX.Fn Tryd.prog 18 [v, clv b, rmv r, I t, I f, .agg #[I tc, I ts]] w (fun _ => False) fun q N => ∃ why bn en, q = .tuple #[I why, I bn, I en, I (goE c b r t f tc ts)] ∧ (goE c b r t f tc ts ≠ 0 → why = 0) ∧ (goE c b r t f tc ts = 0 → ReasonP (Vg.of c b r t tc ts) (rdyB c b r) f why bn en) := by
  have hc0 := hc
  have hgo := fun (H : List HO) w' (hp : Hp ⟨w, fun _ => False⟩ H w') => rgo_fn w' (hw.hp hp) v c (hc0.hp hp) hsm b r t f tc ts
  have hre := fun (he : goE c b r t f tc ts = 0) (H : List HO) w' (hp : Hp ⟨w, fun _ => False⟩ H w') => rreason2_fn w' (hw.hp hp) v c (hc0.hp hp) b r t f tc ts he
  obtain ⟨sD, sT, sS, rfl, hsD, hsT, hsS⟩ := hc
  have dn : ∀ (g : Nat) (xs : List Value), det0 g xs = none := fun _ _ => rfl
  obtain ⟨E, hE⟩ : ∃ E, goE c b r t f tc ts = E := ⟨_, rfl⟩
  rw [hE]
  simp only [hE] at hgo hre
  unfold clv rmv at hgo hre
  unfold clv rmv
  refine walk [] [] (det0_ok _ _) Tryd.func18 rfl Tryd.ntmps18 res18 (by kernel_rfl) no_facts ?_
  simp (config := { maxSteps := 4000000 }) only [↓sx0, ↓sx1, ↓sx2, ↓sx3, ↓sx4, ↓sx5, ↓sx6, sx0, sx1, sx2, sx3, sx4, sx5, sx6, tf18, ev3_hold, sxo, sxc, sxp, sxq, sxr, sxs, sxl, sxm, Int.reduceBEq, Int.reduceBNe, Int.reduceLT, Int.reduceLE, Int.reduceEq, Int.reduceGT, Int.reduceGE, Int.reduceToNat, ↓reduceIte, List.reduceReplicate, Nat.reduceAdd, Nat.reduceSub, Nat.reduceMul, Nat.reduceLT, Nat.reduceLeDiff, Nat.reduceBEq, Nat.reduceEqDiff, dn]
  refine CallOb.pureH (fun w' hp => hgo _ w' hp) ?_
  rintro q N rfl
  by_cases h0 : E = 0
  case neg =>
    have e1 : (E = 0) = False := eq_false h0
    refine ⟨?_⟩
    simp (config := { maxSteps := 4000000 }) only [↓sx0, ↓sx1, ↓sx2, ↓sx3, ↓sx4, ↓sx5, ↓sx6, sx0, sx1, sx2, sx3, sx4, sx5, sx6, tf18, ev3_hold, sxo, sxc, sxp, sxq, sxr, sxs, sxl, sxm, Int.reduceBEq, Int.reduceBNe, Int.reduceLT, Int.reduceLE, Int.reduceEq, Int.reduceGT, Int.reduceGE, Int.reduceToNat, ↓reduceIte, List.reduceReplicate, Nat.reduceAdd, Nat.reduceSub, Nat.reduceMul, Nat.reduceLT, Nat.reduceLeDiff, Nat.reduceBEq, Nat.reduceEqDiff, e1]
    exact ⟨0, 0, 0, rfl, rfl⟩
  subst h0
  have hre := hre rfl
  refine ⟨?_⟩
  simp (config := { maxSteps := 4000000 }) only [↓sx0, ↓sx1, ↓sx2, ↓sx3, ↓sx4, ↓sx5, ↓sx6, sx0, sx1, sx2, sx3, sx4, sx5, sx6, tf18, ev3_hold, sxo, sxc, sxp, sxq, sxr, sxs, sxl, sxm, Int.reduceBEq, Int.reduceBNe, Int.reduceLT, Int.reduceLE, Int.reduceEq, Int.reduceGT, Int.reduceGE, Int.reduceToNat, ↓reduceIte, List.reduceReplicate, Nat.reduceAdd, Nat.reduceSub, Nat.reduceMul, Nat.reduceLT, Nat.reduceLeDiff, Nat.reduceBEq, Nat.reduceEqDiff, dn]
  refine CallOb.pureH (fun w' hp => hre _ w' hp) ?_
  rintro q N2 ⟨why, bn, en, rfl, hR⟩
  refine ⟨?_⟩
  simp (config := { maxSteps := 4000000 }) only [↓sx0, ↓sx1, ↓sx2, ↓sx3, ↓sx4, ↓sx5, ↓sx6, sx0, sx1, sx2, sx3, sx4, sx5, sx6, tf18, ev3_hold, sxo, sxc, sxp, sxq, sxr, sxs, sxl, sxm, Int.reduceBEq, Int.reduceBNe, Int.reduceLT, Int.reduceLE, Int.reduceEq, Int.reduceGT, Int.reduceGE, Int.reduceToNat, ↓reduceIte, List.reduceReplicate, Nat.reduceAdd, Nat.reduceSub, Nat.reduceMul, Nat.reduceLT, Nat.reduceLeDiff, Nat.reduceBEq, Nat.reduceEqDiff]
  exact ⟨why, bn, en, rfl, hR⟩
theorem goE_ro (c : Cht) (b : Cls) (r : Rmp) (t f ts : Int) : goE c b r t f 0 ts = roE c b r t f ts := by
  unfold goE roE
  by_cases h : staE c b r t f = 0
  · obtain ⟨hok, _⟩ := staE_zero h
    have h1 := hok.dims
    have h2 : 1 * 1 ≤ c.W * c.H := Nat.mul_le_mul h1.2.2.1.1 h1.2.2.2.1.1
    rw [if_pos h, if_pos h, (inB_iff (0 : Int) 0 _).2 (by omega), Bool.true_and]
  · rw [if_neg h, if_neg h]
theorem goE_at {c : Cht} {b : Cls} {r : Rmp} {t f ts : Int} (h : roE c b r t f ts = 0) {k : Nat} (hk : k < c.depth.length) : goE c b r t f k ts = 0 := by
  unfold roE at h
  unfold goE
  split at h
  · rename_i h1
    rw [if_pos h1, (inB_iff (k : Int) 0 _).2 (by omega), Bool.true_and]
    exact h
  · rename_i h1
    exact absurd h h1
theorem rRound_fn (w : World) (hw : Ways w) (v : Value) (c : Cht) (hc : ChOk w v c) (hsm : c.small) (b : Cls) (r : Rmp) (t f ts : Int) :
    SX.Fn Tryd.prog 22 [v, clv b, rmv r, I t, I f, I ts] w (fun _ => False) (RoundP c b r t f ts) := by
  have hc0 := hc
  have hD := detR_ok (X := fun _ => False) hw hc (fun _ _ => id)
  have hgo := fun (H : List HO) w' (hp : Hp ⟨w, fun _ => False⟩ H w') => rgo_fn w' (hw.hp hp) v c (hc0.hp hp) hsm b r t f 0 ts
  have hre := fun (k : Nat) (he : goE c b r t f k ts = 0) (H : List HO) w' (hp : Hp ⟨w, fun _ => False⟩ H w') => rreason2_fn w' (hw.hp hp) v c (hc0.hp hp) b r t f k ts he
  rw [goE_ro] at hgo
  obtain ⟨sD, sT, sS, rfl, hsD, hsT, hsS⟩ := hc
  have hdl : c.depth.length ≤ 200 := hsm.1
  have hce : detR (.agg #[I c.wide, I c.high, sD, sT, sS]) c 42 [.agg #[I c.wide, I c.high, sD, sT, sS]] = some (I (wr (c.wide * c.high))) := rfl
  have dn : (∀ xs, detR (.agg #[I c.wide, I c.high, sD, sT, sS]) c 27 xs = none) ∧ (∀ xs, detR (.agg #[I c.wide, I c.high, sD, sT, sS]) c 48 xs = none) := ⟨fun _ => rfl, fun _ => rfl⟩
  unfold RoundP
  by_cases h0 : roE c b r t f ts = 0
  case neg =>
    have e1 : (roE c b r t f ts = 0) = False := eq_false h0
    unfold clv rmv at hgo
    unfold clv rmv
    refine walk [] [] hD Tryd.func22 rfl Tryd.ntmps22 res22 (by kernel_rfl) no_facts ?_
    simp (config := { maxSteps := 4000000 }) only [↓sx0, ↓sx1, ↓sx2, ↓sx3, ↓sx4, ↓sx5, ↓sx6, sx0, sx1, sx2, sx3, sx4, sx5, sx6, tf22, ev3_hold, sxo, sxc, sxp, sxq, sxr, sxs, sxl, sxm, Int.reduceBEq, Int.reduceBNe, Int.reduceLT, Int.reduceLE, Int.reduceEq, Int.reduceGT, Int.reduceGE, Int.reduceToNat, ↓reduceIte, List.reduceReplicate, Nat.reduceAdd, Nat.reduceSub, Nat.reduceMul, Nat.reduceLT, Nat.reduceLeDiff, Nat.reduceBEq, Nat.reduceEqDiff, dn]
    refine CallOb.pureH (fun w' hp => hgo _ w' hp) ?_
    rintro q N rfl
    refine ⟨?_⟩
    simp (config := { maxSteps := 4000000 }) only [↓sx0, ↓sx1, ↓sx2, ↓sx3, ↓sx4, ↓sx5, ↓sx6, sx0, sx1, sx2, sx3, sx4, sx5, sx6, tf22, ev3_hold, sxo, sxc, sxp, sxq, sxr, sxs, sxl, sxm, Int.reduceBEq, Int.reduceBNe, Int.reduceLT, Int.reduceLE, Int.reduceEq, Int.reduceGT, Int.reduceGE, Int.reduceToNat, ↓reduceIte, List.reduceReplicate, Nat.reduceAdd, Nat.reduceSub, Nat.reduceMul, Nat.reduceLT, Nat.reduceLeDiff, Nat.reduceBEq, Nat.reduceEqDiff, e1]
    exact .inl trivial
  rw [h0] at hgo ⊢
  have hat := fun (k : Nat) (hk : k < c.depth.length) => hre k (goE_at h0 hk)
  have hsta : staE c b r t f = 0 := by
    unfold roE at h0
    split at h0
    · assumption
    · rename_i h1
      exact absurd h0 h1
  have hwh : (c.depth.length : Int) = c.wide * c.high := (staE_zero hsta).1.2.2.1
  have ewh : IntKind.i64.wrap (c.wide * c.high) = (c.depth.length : Int) := by rw [← hwh]; exact wrap_id (by omega)
  unfold clv rmv at hgo hat
  unfold clv rmv
  refine walk [] [] hD Tryd.func22 rfl Tryd.ntmps22 res22 (by kernel_rfl) no_facts ?_
  simp (config := { maxSteps := 4000000 }) only [↓sx0, ↓sx1, ↓sx2, ↓sx3, ↓sx4, ↓sx5, ↓sx6, sx0, sx1, sx2, sx3, sx4, sx5, sx6, tf22, ev3_hold, sxo, sxc, sxp, sxq, sxr, sxs, sxl, sxm, Int.reduceBEq, Int.reduceBNe, Int.reduceLT, Int.reduceLE, Int.reduceEq, Int.reduceGT, Int.reduceGE, Int.reduceToNat, ↓reduceIte, List.reduceReplicate, Nat.reduceAdd, Nat.reduceSub, Nat.reduceMul, Nat.reduceLT, Nat.reduceLeDiff, Nat.reduceBEq, Nat.reduceEqDiff, dn]
  refine CallOb.pureH (fun w' hp => hgo _ w' hp) ?_
  rintro q N rfl
  refine ⟨?_⟩
  simp (config := { maxSteps := 4000000 }) only [↓sx0, ↓sx1, ↓sx2, ↓sx3, ↓sx4, ↓sx5, ↓sx6, sx0, sx1, sx2, sx3, sx4, sx5, sx6, tf22, ev3_hold, sxo, sxc, sxp, sxq, sxr, sxs, sxl, sxm, Int.reduceBEq, Int.reduceBNe, Int.reduceLT, Int.reduceLE, Int.reduceEq, Int.reduceGT, Int.reduceGE, Int.reduceToNat, ↓reduceIte, List.reduceReplicate, Nat.reduceAdd, Nat.reduceSub, Nat.reduceMul, Nat.reduceLT, Nat.reduceLeDiff, Nat.reduceBEq, Nat.reduceEqDiff]
  refine loop_constH [HO.row (.slice none 0 0) 3 1 (ints [])] ((HImp.nil _ _).trans (HImp.nilRow _ _ _ _)) [(15, 19), (31, 53)] (fun q : Nat × Option Addr × Nat × List Int => [(15, .slice q.2.1 q.2.2.2.length q.2.2.1), (16, I q.1)])
    (fun q H1 => q.1 ≤ c.depth.length ∧ q.2.2.2.length = q.1 ∧ (q.2.1 = none → q.2.2.2 = []) ∧ (∀ k : Nat, k < q.1 → (Vg.of c b r t k ts).Ans (rdyB c b r) f (q.2.2.2.getD k 0)) ∧ H1 = [HO.row (.slice q.2.1 q.2.2.2.length q.2.2.1) 3 1 (ints q.2.2.2)]) (fun q => c.depth.length - q.1) (0, none, 0, []) ?_ ⟨Nat.zero_le _, rfl, fun _ => rfl, fun k hk => by omega, rfl⟩ ?_
  · simp (config := { maxSteps := 4000000 }) only [↓sx0, ↓sx1, ↓sx2, ↓sx3, ↓sx4, ↓sx5, ↓sx6, sx0, sx1, sx2, sx3, sx4, sx5, sx6, tf22, ev3_hold, sxo, sxc, sxp, sxq, sxr, sxs, sxl, sxm, Int.reduceBEq, Int.reduceBNe, Int.reduceLT, Int.reduceLE, Int.reduceEq, Int.reduceGT, Int.reduceGE, Int.reduceToNat, ↓reduceIte, List.reduceReplicate, Nat.reduceAdd, Nat.reduceSub, Nat.reduceMul, Nat.reduceLT, Nat.reduceLeDiff, Nat.reduceBEq, Nat.reduceEqDiff]
    try simp
  rintro ⟨i, ad, cp, ws⟩ H1 g1 hinv
  simp only [] at hinv
  obtain ⟨hi, hwl, hnil, hws, rfl⟩ := hinv
  by_cases hin : i = c.depth.length
  · have e7 : ((i : Int) < (c.depth.length : Int)) = False := eq_false (by omega)
    refine ⟨?_⟩
    simp (config := { maxSteps := 4000000 }) only [↓sx0, ↓sx1, ↓sx2, ↓sx3, ↓sx4, ↓sx5, ↓sx6, sx0, sx1, sx2, sx3, sx4, sx5, sx6, tf22, ev3_hold, sxo, sxc, sxp, sxq, sxr, sxs, sxl, sxm, Int.reduceBEq, Int.reduceBNe, Int.reduceLT, Int.reduceLE, Int.reduceEq, Int.reduceGT, Int.reduceGE, Int.reduceToNat, ↓reduceIte, List.reduceReplicate, Nat.reduceAdd, Nat.reduceSub, Nat.reduceMul, Nat.reduceLT, Nat.reduceLeDiff, Nat.reduceBEq, Nat.reduceEqDiff, hce, ewh, e7]
    exact .inr ⟨_, ws, rfl, Got.row rfl List.mem_cons_self hnil, by omega, fun k hk => hws k (by omega)⟩
  have e7 : ((i : Int) < (c.depth.length : Int)) = True := eq_true (by omega)
  have e8 : wr (i + 1) = ((i + 1 : Nat) : Int) := (wrap_id (by omega)).trans (by omega)
  have hati := hat i (by omega)
  refine ⟨?_⟩
  simp (config := { maxSteps := 4000000 }) only [↓sx0, ↓sx1, ↓sx2, ↓sx3, ↓sx4, ↓sx5, ↓sx6, sx0, sx1, sx2, sx3, sx4, sx5, sx6, tf22, ev3_hold, sxo, sxc, sxp, sxq, sxr, sxs, sxl, sxm, Int.reduceBEq, Int.reduceBNe, Int.reduceLT, Int.reduceLE, Int.reduceEq, Int.reduceGT, Int.reduceGE, Int.reduceToNat, ↓reduceIte, List.reduceReplicate, Nat.reduceAdd, Nat.reduceSub, Nat.reduceMul, Nat.reduceLT, Nat.reduceLeDiff, Nat.reduceBEq, Nat.reduceEqDiff, hce, ewh, e7, dn]
  refine CallOb.pureH (fun w' hp => hati _ w' hp) ?_
  rintro q N2 ⟨why, bn, en, rfl, hR⟩
  have hwl2 : (ws ++ [why]).length = ws.length + 1 := by rw [List.length_append, List.length_singleton]
  refine ⟨?_⟩
  simp (config := { maxSteps := 4000000 }) only [↓sx0, ↓sx1, ↓sx2, ↓sx3, ↓sx4, ↓sx5, ↓sx6, sx0, sx1, sx2, sx3, sx4, sx5, sx6, tf22, ev3_hold, sxo, sxc, sxp, sxq, sxr, sxs, sxl, sxm, Int.reduceBEq, Int.reduceBNe, Int.reduceLT, Int.reduceLE, Int.reduceEq, Int.reduceGT, Int.reduceGE, Int.reduceToNat, ↓reduceIte, List.reduceReplicate, Nat.reduceAdd, Nat.reduceSub, Nat.reduceMul, Nat.reduceLT, Nat.reduceLeDiff, Nat.reduceBEq, Nat.reduceEqDiff]
  intro b4
  refine app_one (l := ws) why (HImp.app _ _ _) i1_len i1_one (by omega) fun ad3 c3 => ?_
  rw [← hwl2]
  simp (config := { maxSteps := 4000000 }) only [↓sx0, ↓sx1, ↓sx2, ↓sx3, ↓sx4, ↓sx5, ↓sx6, sx0, sx1, sx2, sx3, sx4, sx5, sx6, tf22, ev3_hold, sxo, sxc, sxp, sxq, sxr, sxs, sxl, sxm, Int.reduceBEq, Int.reduceBNe, Int.reduceLT, Int.reduceLE, Int.reduceEq, Int.reduceGT, Int.reduceGE, Int.reduceToNat, ↓reduceIte, List.reduceReplicate, Nat.reduceAdd, Nat.reduceSub, Nat.reduceMul, Nat.reduceLT, Nat.reduceLeDiff, Nat.reduceBEq, Nat.reduceEqDiff, e8]
  refine ⟨(i + 1, some ad3, c3, ws ++ [why]), _, ⟨rfl, rfl⟩, HImp.refl _ _, ⟨by simp only []; omega, by simp only []; omega, fun h => (by cases h), fun k hk => ?_, rfl⟩, by simp only []; omega⟩
  simp only [] at hk ⊢
  rw [List.getD_eq_getElem?_getD]
  by_cases e : k < ws.length
  · rw [List.getElem?_append_left e, ← List.getD_eq_getElem?_getD]
    exact hws k (by omega)
  · have e' : k = i := by omega
    subst e'
    rw [List.getElem?_append_right (by omega), hwl, Nat.sub_self]
    exact hR.ans
end Go.Proofs.YtcnlbnccbnapbaaDoor
