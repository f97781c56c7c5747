/- Parts of a proof: the symbolic walk and what it shows of single functions. -/
import Derived.Test.YtcnlbnccbnapbaaDoorP6
set_option linter.all false
namespace Go.Proofs.YtcnlbnccbnapbaaDoor
open Go.RowKit Go.SX
set_option maxRecDepth 10000
set_option maxHeartbeats 0
set_option linter.unusedSimpArgs false
set_option linter.unusedVariables false
theorem go5_fn (w : World) (hw : Ways w) (v : Value) (c : Cht) (hc : ChOk w v c) (hsm : c.small) (b : Cls) (r : Rmp) (t f tc ts : Int) :
    SX.Fn Tryd.prog 16 [v, clv b, rmv r, I t, I f, .agg #[I tc, I ts]] w (fun _ => False) (GoP c b r t f tc ts) := by
  have hc0 := hc
  have hop := fun (H : List HO) w' (hp : Hp ⟨w, fun _ => False⟩ H w') => open5_fn w' (hw.hp hp) v c (hc0.hp hp) hsm b r t f
  obtain ⟨sD, sT, sS, rfl, hsD, hsT, hsS⟩ := hc
  obtain ⟨aD, nD, cD, rfl⟩ := hsD.shape
  have hnD := hsD.le i1_len (by omega)
  subst hnD
  have hdl : c.depth.length ≤ 200 := hsm.1
  have e0 : wr ((c.depth.length : Int) - 1) = (c.depth.length : Int) - 1 := wrap_id (by omega)
  have dn : (∀ xs, detQ 45 xs = none) ∧ (∀ xs, detQ 47 xs = none) := ⟨fun _ => rfl, fun _ => rfl⟩
  have hwd : ∀ n l h : Int, detQ 46 [I n, I l, I h] = some (.bool (inB n l h)) := fun _ _ _ => rfl
  unfold GoP noV
  unfold clv rmv
  unfold clv rmv at hop
  refine walk [] [] (detQ_ok _ _) Tryd.func16 rfl Tryd.ntmps16 res16 (by kernel_rfl) no_facts ?_
  simp (config := { maxSteps := 4000000 }) only [↓sx0, ↓sx1, ↓sx2, ↓sx3, ↓sx4, ↓sx5, ↓sx6, sx0, sx1, sx2, sx3, sx4, sx5, sx6, tf16, ev3_hold, sxo, sxc, sxp, sxq, sxr, sxs, sxl, sxm, Int.reduceBEq, Int.reduceBNe, Int.reduceLT, Int.reduceLE, Int.reduceEq, Int.reduceGT, Int.reduceGE, Int.reduceToNat, ↓reduceIte, List.reduceReplicate, Nat.reduceAdd, Nat.reduceSub, Nat.reduceMul, Nat.reduceLT, Nat.reduceLeDiff, Nat.reduceBEq, Nat.reduceEqDiff, dn]
  refine CallOb.pureH (fun w' hp => hop _ w' hp) ?_
  rintro q N hO
  by_cases hE : staE c b r t f = 0
  case neg =>
    have hg : goE c b r t f tc ts = staE c b r t f := by unfold goE; rw [if_neg hE]
    rw [hg]
    rcases hO with ⟨_, rfl⟩ | ⟨h, _⟩
    · have e1 : (staE c b r t f = 0) = False := eq_false hE
      refine ⟨?_⟩
      simp (config := { maxSteps := 4000000 }) only [↓sx0, ↓sx1, ↓sx2, ↓sx3, ↓sx4, ↓sx5, ↓sx6, sx0, sx1, sx2, sx3, sx4, sx5, sx6, tf16, ev3_hold, sxo, sxc, sxp, sxq, sxr, sxs, sxl, sxm, Int.reduceBEq, Int.reduceBNe, Int.reduceLT, Int.reduceLE, Int.reduceEq, Int.reduceGT, Int.reduceGE, Int.reduceToNat, ↓reduceIte, List.reduceReplicate, Nat.reduceAdd, Nat.reduceSub, Nat.reduceMul, Nat.reduceLT, Nat.reduceLeDiff, Nat.reduceBEq, Nat.reduceEqDiff, e1]
      exact .inl trivial
    · exact absurd h hE
  rcases hO with ⟨h, _⟩ | ⟨_, bs, rfl, hN⟩
  · exact absurd hE h
  cases h1 : inB tc 0 ((c.depth.length : Int) - 1) with
  | false =>
    have hg : goE c b r t f tc ts = 51 := by unfold goE; rw [if_pos hE, h1]; rfl
    rw [hg]
    refine ⟨?_⟩
    simp (config := { maxSteps := 4000000 }) only [↓sx0, ↓sx1, ↓sx2, ↓sx3, ↓sx4, ↓sx5, ↓sx6, sx0, sx1, sx2, sx3, sx4, sx5, sx6, tf16, ev3_hold, sxo, sxc, sxp, sxq, sxr, sxs, sxl, sxm, Int.reduceBEq, Int.reduceBNe, Int.reduceLT, Int.reduceLE, Int.reduceEq, Int.reduceGT, Int.reduceGE, Int.reduceToNat, ↓reduceIte, List.reduceReplicate, Nat.reduceAdd, Nat.reduceSub, Nat.reduceMul, Nat.reduceLT, Nat.reduceLeDiff, Nat.reduceBEq, Nat.reduceEqDiff, hwd, e0, h1]
    exact .inl trivial
  | true =>
  cases h2 : inB ts 0 8 with
  | false =>
    have hg : goE c b r t f tc ts = 51 := by unfold goE; rw [if_pos hE, h1, h2]; rfl
    rw [hg]
    refine ⟨?_⟩
    simp (config := { maxSteps := 4000000 }) only [↓sx0, ↓sx1, ↓sx2, ↓sx3, ↓sx4, ↓sx5, ↓sx6, sx0, sx1, sx2, sx3, sx4, sx5, sx6, tf16, ev3_hold, sxo, sxc, sxp, sxq, sxr, sxs, sxl, sxm, Int.reduceBEq, Int.reduceBNe, Int.reduceLT, Int.reduceLE, Int.reduceEq, Int.reduceGT, Int.reduceGE, Int.reduceToNat, ↓reduceIte, List.reduceReplicate, Nat.reduceAdd, Nat.reduceSub, Nat.reduceMul, Nat.reduceLT, Nat.reduceLeDiff, Nat.reduceBEq, Nat.reduceEqDiff, hwd, e0, h1, h2]
    exact .inl trivial
  | true =>
  have hg : goE c b r t f tc ts = 0 := by unfold goE; rw [if_pos hE, h1, h2]; rfl
  have hok := Vg.of_ok hg
  have hz := staE_zero hE
  have hrc := ramp_cell hz.2.2.1
  have hk4 := hz.2.2.2.1
  have hf5 := hz.2.2.2.2
  rw [inB_iff] at h1 h2
  have h1' := (inB_iff _ _ _).2 h1
  have h2' := (inB_iff _ _ _).2 h2
  rw [hg]
  obtain ⟨T, rfl⟩ : ∃ T : Nat, t = T := ⟨t.toNat, by omega⟩
  obtain ⟨TC, rfl⟩ : ∃ T : Nat, tc = T := ⟨tc.toNat, by omega⟩
  obtain ⟨TS, rfl⟩ : ∃ T : Nat, ts = T := ⟨ts.toNat, by omega⟩
  have hdec := fun (H : List HO) w' (hp : Hp ⟨w, fun _ => False⟩ H w') (hm : ∀ h ∈ N, h ∈ H) => decide5_fn w' bs (Vg.of c b r T TC TS) hok r (by show r.cell = (r.cell.toNat : Int); omega) (hN.ok hm hc0 hp) f hf5
  refine ⟨?_⟩
  simp (config := { maxSteps := 4000000 }) only [↓sx0, ↓sx1, ↓sx2, ↓sx3, ↓sx4, ↓sx5, ↓sx6, sx0, sx1, sx2, sx3, sx4, sx5, sx6, tf16, ev3_hold, sxo, sxc, sxp, sxq, sxr, sxs, sxl, sxm, Int.reduceBEq, Int.reduceBNe, Int.reduceLT, Int.reduceLE, Int.reduceEq, Int.reduceGT, Int.reduceGE, Int.reduceToNat, ↓reduceIte, List.reduceReplicate, Nat.reduceAdd, Nat.reduceSub, Nat.reduceMul, Nat.reduceLT, Nat.reduceLeDiff, Nat.reduceBEq, Nat.reduceEqDiff, hwd, e0, h1', h2', dn]
  refine CallOb.pureH (fun w' hp => hdec _ w' hp (by simp +contextual)) ?_
  rintro q N2 (⟨why, rfl, hy⟩ | ⟨k1, k2, m, B, L, x, k3, k4, k5, k6, rfl, k7⟩)
  · unfold noV
    refine ⟨?_⟩
    simp (config := { maxSteps := 4000000 }) only [↓sx0, ↓sx1, ↓sx2, ↓sx3, ↓sx4, ↓sx5, ↓sx6, sx0, sx1, sx2, sx3, sx4, sx5, sx6, tf16, ev3_hold, sxo, sxc, sxp, sxq, sxr, sxs, sxl, sxm, Int.reduceBEq, Int.reduceBNe, Int.reduceLT, Int.reduceLE, Int.reduceEq, Int.reduceGT, Int.reduceGE, Int.reduceToNat, ↓reduceIte, List.reduceReplicate, Nat.reduceAdd, Nat.reduceSub, Nat.reduceMul, Nat.reduceLT, Nat.reduceLeDiff, Nat.reduceBEq, Nat.reduceEqDiff]
    exact .inr (.inl ⟨why, rfl, hy⟩)
  · obtain ⟨ax, cx, rfl⟩ := k7.shape
    refine ⟨?_⟩
    simp (config := { maxSteps := 4000000 }) only [↓sx0, ↓sx1, ↓sx2, ↓sx3, ↓sx4, ↓sx5, ↓sx6, sx0, sx1, sx2, sx3, sx4, sx5, sx6, tf16, ev3_hold, sxo, sxc, sxp, sxq, sxr, sxs, sxl, sxm, Int.reduceBEq, Int.reduceBNe, Int.reduceLT, Int.reduceLE, Int.reduceEq, Int.reduceGT, Int.reduceGE, Int.reduceToNat, ↓reduceIte, List.reduceReplicate, Nat.reduceAdd, Nat.reduceSub, Nat.reduceMul, Nat.reduceLT, Nat.reduceLeDiff, Nat.reduceBEq, Nat.reduceEqDiff]
    exact .inr (.inr ⟨k1, k2, m, B, L, _, k3, k4, k5, k6, rfl, k7.mono (by simp +contextual)⟩)
end Go.Proofs.YtcnlbnccbnapbaaDoor

namespace Go.Proofs.YtcnlbnccbnapbaaDoor
open Go.RowKit Go.SX
set_option maxRecDepth 10000
set_option maxHeartbeats 0
set_option linter.unusedSimpArgs false
set_option linter.unusedVariables false
def Vg.Ans (g : Vg) (rdy : Nat → Bool) (f why : Int) : Prop := g.Why rdy f why ∨ (why = 0 ∧ rdy g.t = true ∧ 0 ≤ g.near ∧ ∃ m B, g.Best rdy m B ∧ B + g.b.reserve ≤ f)
theorem DecP.ans {g : Vg} {rdy : Nat → Bool} {f : Int} {q : Value} {N : List HO} (h : DecP g rdy f q N) : ∃ why a n c B, q = .tuple #[I why, .agg #[.slice a n c, I B]] ∧ g.Ans rdy f why := by
  rcases h with ⟨why, rfl, hy⟩ | ⟨k1, k2, m, B, L, x, k3, k4, k5, k6, rfl, k7⟩
  · exact ⟨why, _, _, _, _, rfl, .inl hy⟩
  · obtain ⟨ax, cx, rfl⟩ := k7.shape
    exact ⟨0, _, _, _, _, rfl, .inr ⟨rfl, k1, k2, m, B, k3, k6⟩⟩
noncomputable def roE (c : Cht) (b : Cls) (r : Rmp) (t f ts : Int) : Int := if staE c b r t f = 0 then (if inB ts 0 8 then 0 else 51) else staE c b r t f
def RoundP (c : Cht) (b : Cls) (r : Rmp) (t f ts : Int) (q : Value) (N : List HO) : Prop :=
  (roE c b r t f ts ≠ 0 ∧ q = .tuple #[.slice none 0 0, I (roE c b r t f ts)]) ∨
  (roE c b r t f ts = 0 ∧ ∃ x ws, q = .tuple #[x, I 0] ∧ Got x 3 1 i1 ws N ∧ ws.length = c.depth.length ∧ ∀ k : Nat, k < c.depth.length → (Vg.of c b r t k ts).Ans (rdyB c b r) f (ws.getD k 0))
theorem round5_fn (w : World) (hw : Ways w) (v : Value) (c : Cht) (hc : ChOk w v c) (hsm : c.small) (b : Cls) (r : Rmp) (t f ts : Int) :
    SX.Fn Tryd.prog 21 [v, clv b, rmv r, I t, I f, I ts] w (fun _ => False) (RoundP c b r t f ts) := by
  have hc0 := hc
  have hop := fun (H : List HO) w' (hp : Hp ⟨w, fun _ => False⟩ H w') => open5_fn w' (hw.hp hp) v c (hc0.hp hp) hsm b r t f
  obtain ⟨sD, sT, sS, rfl, hsD, hsT, hsS⟩ := hc
  obtain ⟨aD, nD, cD, rfl⟩ := hsD.shape
  have hnD := hsD.le i1_len (by omega)
  subst hnD
  have hdl : c.depth.length ≤ 200 := hsm.1
  have dn : (∀ xs, detQ 45 xs = none) ∧ (∀ xs, detQ 47 xs = none) := ⟨fun _ => rfl, fun _ => rfl⟩
  have hwd : ∀ n l h : Int, detQ 46 [I n, I l, I h] = some (.bool (inB n l h)) := fun _ _ _ => rfl
  unfold RoundP
  unfold clv rmv
  unfold clv rmv at hop
  refine walk [] [] (detQ_ok _ _) Tryd.func21 rfl Tryd.ntmps21 res21 (by kernel_rfl) no_facts ?_
  simp (config := { maxSteps := 4000000 }) only [↓sx0, ↓sx1, ↓sx2, ↓sx3, ↓sx4, ↓sx5, ↓sx6, sx0, sx1, sx2, sx3, sx4, sx5, sx6, tf21, ev3_hold, sxo, sxc, sxp, sxq, sxr, sxs, sxl, sxm, Int.reduceBEq, Int.reduceBNe, Int.reduceLT, Int.reduceLE, Int.reduceEq, Int.reduceGT, Int.reduceGE, Int.reduceToNat, ↓reduceIte, List.reduceReplicate, Nat.reduceAdd, Nat.reduceSub, Nat.reduceMul, Nat.reduceLT, Nat.reduceLeDiff, Nat.reduceBEq, Nat.reduceEqDiff, dn]
  refine CallOb.pureH (fun w' hp => hop _ w' hp) ?_
  rintro q N hO
  by_cases hE : staE c b r t f = 0
  case neg =>
    have hg : roE c b r t f ts = staE c b r t f := by unfold roE; rw [if_neg hE]
    rw [hg]
    rcases hO with ⟨_, rfl⟩ | ⟨h, _⟩
    · have e1 : (staE c b r t f = 0) = False := eq_false hE
      refine ⟨?_⟩
      simp (config := { maxSteps := 4000000 }) only [↓sx0, ↓sx1, ↓sx2, ↓sx3, ↓sx4, ↓sx5, ↓sx6, sx0, sx1, sx2, sx3, sx4, sx5, sx6, tf21, ev3_hold, sxo, sxc, sxp, sxq, sxr, sxs, sxl, sxm, Int.reduceBEq, Int.reduceBNe, Int.reduceLT, Int.reduceLE, Int.reduceEq, Int.reduceGT, Int.reduceGE, Int.reduceToNat, ↓reduceIte, List.reduceReplicate, Nat.reduceAdd, Nat.reduceSub, Nat.reduceMul, Nat.reduceLT, Nat.reduceLeDiff, Nat.reduceBEq, Nat.reduceEqDiff, e1]
      exact .inl trivial
    · exact absurd h hE
  rcases hO with ⟨h, _⟩ | ⟨_, bs, rfl, hN⟩
  · exact absurd hE h
  cases h2 : inB ts 0 8 with
  | false =>
    have hg : roE c b r t f ts = 51 := by unfold roE; rw [if_pos hE, h2]; rfl
    rw [hg]
    refine ⟨?_⟩
    simp (config := { maxSteps := 4000000 }) only [↓sx0, ↓sx1, ↓sx2, ↓sx3, ↓sx4, ↓sx5, ↓sx6, sx0, sx1, sx2, sx3, sx4, sx5, sx6, tf21, ev3_hold, sxo, sxc, sxp, sxq, sxr, sxs, sxl, sxm, Int.reduceBEq, Int.reduceBNe, Int.reduceLT, Int.reduceLE, Int.reduceEq, Int.reduceGT, Int.reduceGE, Int.reduceToNat, ↓reduceIte, List.reduceReplicate, Nat.reduceAdd, Nat.reduceSub, Nat.reduceMul, Nat.reduceLT, Nat.reduceLeDiff, Nat.reduceBEq, Nat.reduceEqDiff, hwd, h2]
    exact .inl trivial
  | true =>
  have hg : roE c b r t f ts = 0 := by unfold roE; rw [if_pos hE, h2]; rfl
  have hz := staE_zero hE
  have hrc := ramp_cell hz.2.2.1
  have hk4 := hz.2.2.2.1
  have hf5 := hz.2.2.2.2
  rw [hg]
  have h2i := (inB_iff _ _ _).1 h2
  obtain ⟨T, rfl⟩ : ∃ T : Nat, t = T := ⟨t.toNat, by omega⟩
  obtain ⟨TS, rfl⟩ : ∃ T : Nat, ts = T := ⟨ts.toNat, by omega⟩
  have hok : ∀ k : Nat, k < c.depth.length → (Vg.of c b r T k TS).Ok := fun k hk => Vg.of_ok (f := f) (by unfold goE; rw [if_pos hE, h2, (inB_iff _ _ _).2 (by omega)]; rfl)
  have hdec := fun (H : List HO) w' (hp : Hp ⟨w, fun _ => False⟩ H w') (hm : ∀ h ∈ N, h ∈ H) (k : Nat) (hk : k < c.depth.length) => decide5_fn w' bs (Vg.of c b r T k TS) (hok k hk) r (by show r.cell = (r.cell.toNat : Int); omega) (hN.ok hm hc0 hp) f hf5
  refine ⟨?_⟩
  simp (config := { maxSteps := 4000000 }) only [↓sx0, ↓sx1, ↓sx2, ↓sx3, ↓sx4, ↓sx5, ↓sx6, sx0, sx1, sx2, sx3, sx4, sx5, sx6, tf21, ev3_hold, sxo, sxc, sxp, sxq, sxr, sxs, sxl, sxm, Int.reduceBEq, Int.reduceBNe, Int.reduceLT, Int.reduceLE, Int.reduceEq, Int.reduceGT, Int.reduceGE, Int.reduceToNat, ↓reduceIte, List.reduceReplicate, Nat.reduceAdd, Nat.reduceSub, Nat.reduceMul, Nat.reduceLT, Nat.reduceLeDiff, Nat.reduceBEq, Nat.reduceEqDiff, hwd, h2]
  refine ⟨by omega, by omega, by omega, fun bo => ?_⟩
  refine loop_constH (HO.row (.slice (some ⟨bo, 0, none⟩) c.depth.length c.depth.length) 3 1 (ints (List.replicate c.depth.length 0)) :: N) (by rw [show ints (List.replicate c.depth.length 0) = zerosL c.depth.length [Value.int IntKind.i64 0] from (zeros_cat i1 0 _).symm]; exact HImp.refl _ _) [(17, 17), (39, 55)] (fun q : Nat × List Int => [(39, I q.1)])
    (fun q H1 => q.1 ≤ c.depth.length ∧ q.2.length = c.depth.length ∧ (∀ k : Nat, k < q.1 → (Vg.of c b r T k TS).Ans (rdyB c b r) f (q.2.getD k 0)) ∧ H1 = HO.row (.slice (some ⟨bo, 0, none⟩) c.depth.length c.depth.length) 3 1 (ints q.2) :: N) (fun q => c.depth.length - q.1) (0, List.replicate c.depth.length 0) ?_ ⟨Nat.zero_le _, List.length_replicate, fun k h => by simp only [] at h; omega, rfl⟩ ?_
  · simp (config := { maxSteps := 4000000 }) only [↓sx0, ↓sx1, ↓sx2, ↓sx3, ↓sx4, ↓sx5, ↓sx6, sx0, sx1, sx2, sx3, sx4, sx5, sx6, tf21, ev3_hold, sxo, sxc, sxp, sxq, sxr, sxs, sxl, sxm, Int.reduceBEq, Int.reduceBNe, Int.reduceLT, Int.reduceLE, Int.reduceEq, Int.reduceGT, Int.reduceGE, Int.reduceToNat, ↓reduceIte, List.reduceReplicate, Nat.reduceAdd, Nat.reduceSub, Nat.reduceMul, Nat.reduceLT, Nat.reduceLeDiff, Nat.reduceBEq, Nat.reduceEqDiff]
    try simp
  rintro ⟨k, X⟩ H1 g1 hinv
  simp only [] at hinv
  obtain ⟨hk, hXl, hX, rfl⟩ := hinv
  by_cases hkn : k = c.depth.length
  · subst hkn
    have e7 : ((c.depth.length : Int) < (c.depth.length : Int)) = False := eq_false (by omega)
    refine ⟨?_⟩
    simp (config := { maxSteps := 4000000 }) only [↓sx0, ↓sx1, ↓sx2, ↓sx3, ↓sx4, ↓sx5, ↓sx6, sx0, sx1, sx2, sx3, sx4, sx5, sx6, tf21, ev3_hold, sxo, sxc, sxp, sxq, sxr, sxs, sxl, sxm, Int.reduceBEq, Int.reduceBNe, Int.reduceLT, Int.reduceLE, Int.reduceEq, Int.reduceGT, Int.reduceGE, Int.reduceToNat, ↓reduceIte, List.reduceReplicate, Nat.reduceAdd, Nat.reduceSub, Nat.reduceMul, Nat.reduceLT, Nat.reduceLeDiff, Nat.reduceBEq, Nat.reduceEqDiff, e7]
    exact .inr ⟨_, X, rfl, Got.row hXl List.mem_cons_self (fun h => by cases h), hXl, hX⟩
  have e7 : ((k : Int) < (c.depth.length : Int)) = True := eq_true (by omega)
  have e8 : wr (k + 1) = ((k + 1 : Nat) : Int) := (wrap_id (by omega)).trans (by omega)
  refine ⟨?_⟩
  simp (config := { maxSteps := 4000000 }) only [↓sx0, ↓sx1, ↓sx2, ↓sx3, ↓sx4, ↓sx5, ↓sx6, sx0, sx1, sx2, sx3, sx4, sx5, sx6, tf21, ev3_hold, sxo, sxc, sxp, sxq, sxr, sxs, sxl, sxm, Int.reduceBEq, Int.reduceBNe, Int.reduceLT, Int.reduceLE, Int.reduceEq, Int.reduceGT, Int.reduceGE, Int.reduceToNat, ↓reduceIte, List.reduceReplicate, Nat.reduceAdd, Nat.reduceSub, Nat.reduceMul, Nat.reduceLT, Nat.reduceLeDiff, Nat.reduceBEq, Nat.reduceEqDiff, e7, dn]
  refine CallOb.pureH (fun w' hp => hdec _ w' hp (fun h hh => List.mem_cons_of_mem _ hh) k (by omega)) ?_
  rintro q N2 hD
  obtain ⟨why, a1, n1, c1, B1, rfl, hans⟩ := hD.ans
  refine ⟨?_⟩
  simp (config := { maxSteps := 4000000 }) only [↓sx0, ↓sx1, ↓sx2, ↓sx3, ↓sx4, ↓sx5, ↓sx6, sx0, sx1, sx2, sx3, sx4, sx5, sx6, tf21, ev3_hold, sxo, sxc, sxp, sxq, sxr, sxs, sxl, sxm, Int.reduceBEq, Int.reduceBNe, Int.reduceLT, Int.reduceLE, Int.reduceEq, Int.reduceGT, Int.reduceGE, Int.reduceToNat, ↓reduceIte, List.reduceReplicate, Nat.reduceAdd, Nat.reduceSub, Nat.reduceMul, Nat.reduceLT, Nat.reduceLeDiff, Nat.reduceBEq, Nat.reduceEqDiff]
  refine ⟨by omega, by omega, _, rfl, ?_⟩
  refine wr_at (A := N2) (f := i1) (u := why) rfl i1_len (by omega) (by omega) ?_
  simp (config := { maxSteps := 4000000 }) only [↓sx0, ↓sx1, ↓sx2, ↓sx3, ↓sx4, ↓sx5, ↓sx6, sx0, sx1, sx2, sx3, sx4, sx5, sx6, tf21, ev3_hold, sxo, sxc, sxp, sxq, sxr, sxs, sxl, sxm, Int.reduceBEq, Int.reduceBNe, Int.reduceLT, Int.reduceLE, Int.reduceEq, Int.reduceGT, Int.reduceGE, Int.reduceToNat, ↓reduceIte, List.reduceReplicate, Nat.reduceAdd, Nat.reduceSub, Nat.reduceMul, Nat.reduceLT, Nat.reduceLeDiff, Nat.reduceBEq, Nat.reduceEqDiff, e8]
  refine ⟨(k + 1, X.set k why), _, rfl, HImp.app _ _ _, ⟨by simp only []; omega, by simp only [List.length_set]; exact hXl, fun j hj => ?_, rfl⟩, by simp only []; omega⟩
  simp only [] at hj ⊢
  rw [getD_set (by omega)]
  by_cases hjk : k = j
  · subst hjk
    rw [if_pos rfl]
    exact hans
  · rw [if_neg hjk]
    exact hX j (by omega)
end Go.Proofs.YtcnlbnccbnapbaaDoor

namespace Go.Proofs.YtcnlbnccbnapbaaDoor
open Go.RowKit Go.SX
set_option maxRecDepth 10000
set_option maxHeartbeats 4000000
set_option linter.unusedSimpArgs false
set_option linter.unusedVariables false
def Vg.all (g : Vg) : Nat → List (List Nat × Nat × Int)
  | 0 => [([g.k], g.st g.k 0, 0)]
  | i + 1 => (g.all i).flatMap fun e => match e with
    | (x :: L, s, B) => ((nbL g.c.W g.c.H x).filter fun y => canB g.c g.b (g.t + i + 1) y).map fun y => (y :: x :: L, g.st y s, B + g.wg x y)
    | ([], _, _) => []
theorem Vg.all_len (g : Vg) : ∀ i, ∀ e ∈ g.all i, e.1.length = i + 1
  | 0, e, h => by
    rw [Vg.all, List.mem_singleton] at h
    subst h
    rfl
  | i + 1, e, h => by
    rw [Vg.all, List.mem_flatMap] at h
    obtain ⟨e0, h0, h⟩ := h
    have := g.all_len i e0 h0
    obtain ⟨L0, s0, B0⟩ := e0
    cases L0 with
    | nil => cases h
    | cons x L =>
      obtain ⟨y, _, rfl⟩ := List.mem_map.1 h
      simpa using this
theorem Vg.all_p (g : Vg) : ∀ {L : List Nat} {s : Nat} {B : Int}, g.P L s B → (L.reverse, s, B) ∈ g.all (L.length - 1) := by
  intro L s B h
  induction h with
  | zero => exact List.mem_singleton.2 rfl
  | @step L x y s B _ hy hc ih =>
    have h1 : (L ++ [x] ++ [y]).length - 1 = (L ++ [x]).length - 1 + 1 := by simp
    have h2 : (L ++ [x]).length - 1 = L.length := by simp
    rw [h1, Vg.all, List.mem_flatMap]
    refine ⟨_, ih, ?_⟩
    rw [List.reverse_append]
    simp only [List.reverse_cons, List.reverse_nil, List.nil_append, List.singleton_append, List.reverse_append]
    refine List.mem_map.2 ⟨y, List.mem_filter.2 ⟨hy, by rw [h2]; exact hc⟩, rfl⟩
theorem Vg.p_all (g : Vg) : ∀ (i : Nat) (e : List Nat × Nat × Int), e ∈ g.all i → g.P e.1.reverse e.2.1 e.2.2
  | 0, e, h => by
    rw [Vg.all, List.mem_singleton] at h
    subst h
    exact Vg.P.zero
  | i + 1, e, h => by
    rw [Vg.all, List.mem_flatMap] at h
    obtain ⟨e0, h0, h⟩ := h
    have hl := g.all_len i e0 h0
    have ih := g.p_all i e0 h0
    obtain ⟨L0, s0, B0⟩ := e0
    cases L0 with
    | nil => cases h
    | cons x L =>
      obtain ⟨y, hy, rfl⟩ := List.mem_map.1 h
      obtain ⟨h1, h2⟩ := List.mem_filter.1 hy
      simp only [List.reverse_cons] at ih ⊢
      refine Vg.P.step ih h1 ?_
      rw [List.length_reverse]
      simp only [List.length_cons] at hl
      rw [show L.length = i by omega]
      exact h2
def Vg.ends (g : Vg) (i : Nat) : List Int := ((g.all i).filter fun e => e.1.head? == some g.k && e.2.1 == g.ts + 1).map fun e => e.2.2
theorem Vg.ends_iff (g : Vg) (i : Nat) (B : Int) : B ∈ g.ends i ↔ g.R i (g.ts + 1) g.k B := by
  unfold Vg.ends
  constructor
  · intro h
    obtain ⟨e, he, rfl⟩ := List.mem_map.1 h
    obtain ⟨h1, h2⟩ := List.mem_filter.1 he
    have hp := g.p_all i e h1
    have hl := g.all_len i e h1
    obtain ⟨L0, s, B⟩ := e
    simp only [Bool.and_eq_true, beq_iff_eq] at h2
    cases L0 with
    | nil => simp at hl
    | cons x L =>
      obtain ⟨h2, h3⟩ := h2
      simp only [List.head?_cons, Option.some.injEq] at h2
      subst h2 h3
      obtain ⟨L', x', he, hr⟩ := hp.r
      rw [List.reverse_cons] at he
      obtain ⟨rfl, hx⟩ := List.append_inj' he rfl
      cases hx
      rw [List.length_reverse] at hr
      simp only [List.length_cons] at hl
      rw [show L.length = i by omega] at hr
      exact hr
  · intro h
    obtain ⟨L, hl, hp⟩ := h.p
    have := g.all_p hp
    rw [List.length_append, List.length_singleton, hl] at this
    refine List.mem_map.2 ⟨_, List.mem_filter.2 ⟨this, ?_⟩, rfl⟩
    simp
def Vg.cand (g : Vg) (rd : Nat → Bool) : List (Nat × Int) := ((List.range (g.c.tide.length - g.t)).filter fun i => rd (g.t + i)).flatMap fun i => (g.ends i).map fun B => (i, B)
theorem Vg.cand_iff {g : Vg} {rd rdy : Nat → Bool} (hrd : ∀ t, t < g.c.tide.length → rdy t = rd t) (i : Nat) (B : Int) : (i, B) ∈ g.cand rd ↔ g.t + i < g.c.tide.length ∧ rdy (g.t + i) = true ∧ g.R i (g.ts + 1) g.k B := by
  unfold Vg.cand
  rw [List.mem_flatMap]
  constructor
  · rintro ⟨j, hj, h⟩
    obtain ⟨B', hB, he⟩ := List.mem_map.1 h
    cases he
    obtain ⟨h1, h2⟩ := List.mem_filter.1 hj
    rw [List.mem_range] at h1
    exact ⟨by omega, by rw [hrd _ (by omega)]; exact h2, (g.ends_iff i B).1 hB⟩
  · rintro ⟨h1, h2, h3⟩
    exact ⟨i, List.mem_filter.2 ⟨List.mem_range.2 (by omega), by rw [← hrd _ h1]; exact h2⟩, List.mem_map.2 ⟨B, (g.ends_iff i B).2 h3, rfl⟩⟩
def Vg.look (g : Vg) (rd : Nat → Bool) (f why : Int) : Bool :=
  if rd g.t = false then why == 1 else if g.near < 0 then why == 2 else if g.cand rd = [] then why == 3 else
    if why == 0 then (g.cand rd).any fun e => decide (e.2 + g.b.reserve ≤ f) else why == 4 && (g.cand rd).all fun e => decide (e.2 + g.b.reserve > f)
theorem Vg.look_ans {g : Vg} {rd rdy : Nat → Bool} (hrd : ∀ t, t < g.c.tide.length → rdy t = rd t) (ht : g.t < g.c.tide.length) {f why w : Int} (hl : g.look rd f w = true) (ha : g.Ans rdy f why) : why = w := by
  have hc := g.cand_iff hrd
  have h0 := hrd g.t ht
  unfold Vg.look at hl
  split at hl
  · rename_i h1
    rw [beq_iff_eq] at hl
    rw [h1] at h0
    rcases ha with (⟨h, _⟩ | ⟨h, _⟩) | ⟨_, h, _⟩
    · omega
    · rw [h0] at h; cases h
    · rw [h0] at h; cases h
  rename_i h1
  rw [Bool.not_eq_false] at h1
  rw [h1] at h0
  split at hl
  · rename_i h2
    rw [beq_iff_eq] at hl
    rcases ha with (⟨_, h⟩ | ⟨_, ⟨h, _⟩ | ⟨h, _⟩⟩) | ⟨_, _, h, _⟩
    · rw [h0] at h; cases h
    · omega
    · omega
    · omega
  rename_i h2
  split at hl
  · rename_i h3
    rw [beq_iff_eq] at hl
    rcases ha with (⟨_, h⟩ | ⟨_, ⟨_, h⟩ | ⟨_, ⟨h, _⟩ | ⟨_, m, B, h, _⟩⟩⟩) | ⟨_, _, _, m, B, h, _⟩
    · rw [h0] at h; cases h
    · omega
    · omega
    · have := (hc m B).2 ⟨h.lt, h.isr, h.r⟩
      rw [h3] at this
      cases this
    · have := (hc m B).2 ⟨h.lt, h.isr, h.r⟩
      rw [h3] at this
      cases this
  rename_i h3
  obtain ⟨e, he⟩ := List.exists_mem_of_ne_nil _ h3
  have hne := (hc e.1 e.2).1 he
  split at hl
  · rename_i h4
    rw [beq_iff_eq] at h4
    obtain ⟨e', he', hle⟩ := List.any_eq_true.1 hl
    rw [decide_eq_true_eq] at hle
    have hc' := (hc e'.1 e'.2).1 he'
    rcases ha with (⟨_, h⟩ | ⟨_, ⟨_, h⟩ | ⟨_, ⟨_, h⟩ | ⟨_, m, B, h, hgt⟩⟩⟩) | ⟨h, _⟩
    · rw [h0] at h; cases h
    · omega
    · exact absurd hc'.2.2 (h e'.1 e'.2 hc'.1 hc'.2.1)
    · have := (h.least e'.1 e'.2 hc'.1 hc'.2.1 hc'.2.2).1
      omega
    · omega
  · rename_i h4
    rw [Bool.and_eq_true, beq_iff_eq, List.all_eq_true] at hl
    obtain ⟨hl, hall⟩ := hl
    rcases ha with (⟨_, h⟩ | ⟨_, ⟨_, h⟩ | ⟨_, ⟨_, h⟩ | ⟨h, _⟩⟩⟩) | ⟨_, _, _, m, B, h, hgt⟩
    · rw [h0] at h; cases h
    · omega
    · exact absurd hne.2.2 (h e.1 e.2 hne.1 hne.2.1)
    · omega
    · have := hall (m, B) ((hc m B).2 ⟨h.lt, h.isr, h.r⟩)
      rw [decide_eq_true_eq] at this
      simp only [] at this
      omega
end Go.Proofs.YtcnlbnccbnapbaaDoor

namespace Go.Proofs.YtcnlbnccbnapbaaDoor
open Go.RowKit Go.SX
set_option maxRecDepth 100000
set_option maxHeartbeats 0
set_option linter.unusedSimpArgs false
set_option linter.unusedVariables false
def exB : Cls := ⟨20, 5, 4, 1, 10, 6, 1000⟩
def exQ : Rmp := ⟨5, 1, 0, 200, 5⟩
def rdE (t : Nat) : Bool := (decide (exC.swl t ≤ (exQ.own exB).surf) && decide (max (exQ.own exB).least ((exQ.own exB).draught - exC.dep (exQ.own exB).cell.toNat + exC.swl t) ≤ exC.tlo t) && decide (exC.thi t ≤ (exQ.own exB).most)) && decide (exC.swl t ≤ exB.seas)
theorem rdE_eq : ∀ t, t < exC.tide.length → rdyB exC exB exQ t = rdE t := fun t ht => by
  unfold rdyB rdE
  rw [sure_calc]
  have : ∀ t, t < 5 → exC.tlo t ≤ exC.thi t := by decide
  exact this t ht
theorem ex_sta (f : Int) (hf : inB f 0 5000 = true) : staE exC exB exQ 0 f = 0 := by
  unfold staE
  rw [(okB_iff _).2 exC_ok, hf]
  decide
theorem ex_go : goE exC exB exQ 0 19 10 1 = 0 := by
  unfold goE
  rw [ex_sta 19 (by decide)]
  decide
theorem ex_ro : roE exC exB exQ 0 25 0 = 0 := by
  unfold roE
  rw [ex_sta 25 (by decide)]
  decide
def exG : Vg := Vg.of exC exB exQ 0 10 1
theorem ex_look : exG.look rdE 19 0 = true := by decide +kernel
theorem ex_cand : ((exG.cand rdE).all fun e => decide (9 ≤ e.2) && (decide (e.2 ≠ 9) || decide (3 ≤ e.1))) = true ∧ (3, 9) ∈ exG.cand rdE := by decide +kernel
theorem exG_path : ((exG.all 3).all fun e => decide (e.2.1 ≠ 2) || decide (e.2.2 ≠ 9) || decide (e.1.head? ≠ some 5) || decide (e.1 = [5, 10, 10, 5])) = true := by decide +kernel
def exW : List Int := [4, 0, 2, 2, 0, 0, 0, 2, 4, 0, 0, 4]
theorem ex_round : ∀ k : Nat, k < 12 → (Vg.of exC exB exQ 0 (k : Int) 0).look rdE 25 (exW.getD k 0) = true := by decide +kernel
theorem ex_best {m : Nat} {B : Int} (h : exG.Best (rdyB exC exB exQ) m B) : m = 3 ∧ B = 9 := by
  have hc := exG.cand_iff (rd := rdE) (rdy := rdyB exC exB exQ) rdE_eq
  have h1 := (hc 3 9).1 ex_cand.2
  have h2 := List.all_eq_true.1 ex_cand.1 _ ((hc m B).2 ⟨h.lt, h.isr, h.r⟩)
  simp only [Bool.and_eq_true, Bool.or_eq_true, decide_eq_true_eq] at h2
  have h3 := h.least 3 9 h1.1 h1.2.1 h1.2.2
  have h4 : B = 9 := by omega
  exact ⟨by omega, h4⟩
theorem ex_cells {L : List Nat} (h : exG.PE L 9) (hl : L.length = 4) : L = [5, 10, 10, 5] := by
  have h1 := exG.all_p h.1
  rw [hl] at h1
  have h2 := List.all_eq_true.1 exG_path _ h1
  have h3 : L.reverse.head? = some 5 := by rw [List.head?_reverse]; exact h.2
  simp only [Bool.or_eq_true, decide_eq_true_eq, h3] at h2
  rcases h2 with ((h2 | h2) | h2) | h2
  · exact absurd rfl h2
  · exact absurd rfl h2
  · exact absurd rfl h2
  · have := congrArg List.reverse h2
    rwa [List.reverse_reverse] at this
end Go.Proofs.YtcnlbnccbnapbaaDoor

