/- A part of a proof: the symbolic walk and what it shows of single functions. -/
import Derived.Test.YtcnlbnccbnapbaaDoorSqB
import Derived.Test.YtcnlbnccbnapbaaDoorSpT
set_option linter.all false
namespace Go.Proofs.YtcnlbnccbnapbaaDoor
open Go.RowKit Go.SX
set_option maxRecDepth 10000
set_option maxHeartbeats 0
set_option linter.unusedSimpArgs false
set_option linter.unusedVariables false

/-! ### A voyage of the document is one of ours, plain -/

theorem Vg.vto_R {g : Vg} (hg : g.Ok) {l : List Int} (h0 : Vg.ct l 0 = g.k) : ∀ n, g.vto l (n + 1) → g.R n (g.vst l (n + 1)) (Vg.ct l n) (g.vbn l (n + 1))
  | 0, h => by
    have := Vg.R.zero (g := g)
    rw [Vg.vst, Vg.vst, Vg.vbn, h0]
    exact this
  | n + 1, h => by
    have ih := Vg.vto_R hg h0 n fun j hj => h j (by omega)
    obtain ⟨h1, h2, h3⟩ := h (n + 1) (by omega)
    have hm := h3 (by omega)
    obtain ⟨_, _, _, _, hlen⟩ := hg.ok.dims
    have hct : Vg.ct l (n + 1) < g.c.W * g.c.H := by rw [← hlen]; unfold Vg.ct; omega
    have hsy := nb_symm hct hm
    have hst := Vg.R.step ih hsy h2
    rw [Vg.vst, Vg.vbn]
    exact hst

theorem Vg.R_now {g : Vg} (hg : g.Ok) {i s x : Nat} {B : Int} (h : g.R i s x B) : nowB g.c g.b g.k g.t i x = true := by
  induction h with
  | zero => rw [nowB]; exact decide_eq_true rfl
  | @step i s x y B hr hy hc ih =>
    have hx := (Vg.R_bd hg hr).2.1
    rw [nowB, hc, Bool.true_and, List.any_eq_true]
    exact ⟨x, List.mem_range.2 hx, by rw [ih, Bool.true_and, List.contains_iff_mem]; exact hy⟩

theorem Vg.R_near {g : Vg} (hg : g.Ok) {i s x : Nat} {B : Int} (h : g.R i s x B) : 1 ≤ s → ∃ j, j ≤ i ∧ nowB g.c g.b g.k g.t j g.tc = true := by
  induction h with
  | zero =>
    intro hs
    unfold Vg.st at hs
    by_cases hk : g.k = g.tc
    · exact ⟨0, Nat.le_refl _, by rw [nowB]; exact decide_eq_true hk.symm⟩
    · rw [if_neg hk] at hs
      split at hs <;> omega
  | @step i s x y B hr hy hc ih =>
    intro hs
    have hn := Vg.R_now hg (Vg.R.step hr hy hc)
    unfold Vg.st at hs
    split at hs
    · obtain ⟨j, h1, h2⟩ := ih hs
      exact ⟨j, by omega, h2⟩
    · split at hs
      · rename_i he
        exact ⟨i + 1, Nat.le_refl _, by rw [← he]; exact hn⟩
      · omega

theorem Vg.R_reach {g : Vg} (hg : g.Ok) {i x : Nat} {B : Int} (h : g.R i (g.ts + 1) x B) (hi : g.t + i < g.c.tide.length) : 0 ≤ g.near := by
  obtain ⟨j, h1, h2⟩ := Vg.R_near hg h (by omega)
  unfold Vg.near
  rw [outV_iff]
  exact ⟨j, by omega, h2⟩

theorem Vg.isVy.r {g : Vg} (hg : g.Ok) {rdy : Nat → Bool} {l : List Int} (h : g.isVy rdy l) : rdy g.t = true ∧ g.t + (l.length - 1) < g.c.tide.length ∧ rdy (g.t + (l.length - 1)) = true ∧ g.R (l.length - 1) (g.ts + 1) g.k (g.vbn l l.length) := by
  obtain ⟨h1, h2, h3, h4, h5, h6, h7, h8⟩ := h
  have h0 : Vg.ct l 0 = g.k := by unfold Vg.ct; omega
  have he : Vg.ct l (l.length - 1) = g.k := by unfold Vg.ct; omega
  have hr := Vg.vto_R hg h0 (l.length - 1) (by rw [Nat.sub_add_cancel h1]; exact h7)
  rw [Nat.sub_add_cancel h1, h8, he] at hr
  exact ⟨h5, by omega, by rw [show g.t + (l.length - 1) = g.t + l.length - 1 by omega]; exact h6, hr⟩

theorem launchCheapest_fn (w : World) (hw : Ways w) (v : Value) (c : Cht) (hc : ChOk w v c) (b : Cls) (o : Ord5) (vl : Value) (l : List Int) (hl : Sl w vl 1 (ints l)) :
    SX.Fn Tryd.prog 6 [v, clv b, orv o, vl] w (fun _ => False) fun r N => r = .bool true := by
  have hc0 := hc
  have hl0 := hl
  have hwk := fun (H : List HO) w' (hp : Hp ⟨w, fun _ => False⟩ H w') => works5_fn w' (hw.hp hp)
  have hrdy := fun (H : List HO) w' (hp : Hp ⟨w, fun _ => False⟩ H w') => ready5_fn w' (hw.hp hp) v c (hc0.hp hp) b o
  obtain ⟨r, t, f, tc, ts⟩ := o
  have hgg1 := fun (hsm : c.small) (H : List HO) w' (hp : Hp ⟨w, fun _ => False⟩ H w') => go5_fn w' (hw.hp hp) v c (hc0.hp hp) hsm b r t f tc ts
  have hiv : ∀ (he : goE c b r t f tc ts = 0) (hb : l.length ≤ 1000) (H : List HO) w' (hp : Hp ⟨w, fun _ => False⟩ H w'), SX.Fn Tryd.prog 19 [v, clv b, rmv r, I t, .agg #[I tc, I ts], vl] w' (fun _ => False) fun q N => ∃ B bl, q = .tuple #[I B, .bool bl] ∧ (bl = true → (Vg.of c b r t tc ts).isVy (rdyB c b r) l ∧ B = (Vg.of c b r t tc ts).vbn l l.length) := by
    intro he hb H w' hp
    have hok := Vg.of_ok he
    obtain ⟨hsta, htc, hts⟩ := goE_zero he
    obtain ⟨_, hcls, hrmp, htt, hff⟩ := staE_zero hsta
    have hrc := ramp_cell hrmp
    have h1 := isVoyage_fn w' (hw.hp hp) v (Vg.of c b r t tc ts) hok (hc0.hp hp) r hrmp (show r.cell = ((r.cell.toNat : Nat) : Int) by omega) vl l (hl0.hp (fun _ _ => id) hp) hb
    have e1 : (((Vg.of c b r t tc ts).t : Nat) : Int) = t := Int.toNat_of_nonneg htt.1
    have e2 : (((Vg.of c b r t tc ts).tc : Nat) : Int) = tc := Int.toNat_of_nonneg htc.1
    have e3 : (((Vg.of c b r t tc ts).ts : Nat) : Int) = ts := Int.toNat_of_nonneg hts.1
    rw [e1, e2, e3] at h1
    exact Fn.mono h1 fun q N ⟨B, bl, h2, h3, h4⟩ => ⟨B, bl, h2, fun h => ⟨h3.1 h, h4 h⟩⟩
  obtain ⟨sD, sT, sS, rfl, hsD, hsT, hsS⟩ := hc
  obtain ⟨al, nl, cl, rfl⟩ := hl.shape
  have hnl := hl.le i1_len (by omega)
  subst hnl
  have dn : ∀ (g : Nat) (xs : List Value), det0 g xs = none := fun _ _ => rfl
  unfold clv orv at hrdy ⊢
  unfold clv rmv at hgg1 hiv
  refine walk [] [] (det0_ok _ _) Tryd.func6 rfl Tryd.ntmps6 res6 (by kernel_rfl) no_facts ?_
  simp (config := { maxSteps := 4000000 }) only [↓sx0, ↓sx1, ↓sx2, ↓sx3, ↓sx4, ↓sx5, ↓sx6, sx0, sx1, sx2, sx3, sx4, sx5, sx6, tf6, ev3_hold, sxo, sxc, sxp, sxq, sxr, sxs, sxl, sxm, Int.reduceBEq, Int.reduceBNe, Int.reduceLT, Int.reduceLE, Int.reduceEq, Int.reduceGT, Int.reduceGE, Int.reduceToNat, ↓reduceIte, List.reduceReplicate, Nat.reduceAdd, Nat.reduceSub, Nat.reduceMul, Nat.reduceLT, Nat.reduceLeDiff, Nat.reduceBEq, Nat.reduceEqDiff, dn]
  refine CallOb.pureH (fun w' hp => hrdy _ w' hp) ?_
  rintro q N ⟨tv, rfl, htv⟩
  cases tv with
  | false =>
    refine ⟨?_⟩
    simp (config := { maxSteps := 4000000 }) only [↓sx0, ↓sx1, ↓sx2, ↓sx3, ↓sx4, ↓sx5, ↓sx6, sx0, sx1, sx2, sx3, sx4, sx5, sx6, tf6, ev3_hold, sxo, sxc, sxp, sxq, sxr, sxs, sxl, sxm, Int.reduceBEq, Int.reduceBNe, Int.reduceLT, Int.reduceLE, Int.reduceEq, Int.reduceGT, Int.reduceGE, Int.reduceToNat, ↓reduceIte, List.reduceReplicate, Nat.reduceAdd, Nat.reduceSub, Nat.reduceMul, Nat.reduceLT, Nat.reduceLeDiff, Nat.reduceBEq, Nat.reduceEqDiff, dn]
    refine CallOb.pureH (fun w' hp => hwk _ w' hp) ?_
    rintro rW NW rfl
    refine ⟨?_⟩
    simp (config := { maxSteps := 4000000 }) only [↓sx0, ↓sx1, ↓sx2, ↓sx3, ↓sx4, ↓sx5, ↓sx6, sx0, sx1, sx2, sx3, sx4, sx5, sx6, tf6, ev3_hold, sxo, sxc, sxp, sxq, sxr, sxs, sxl, sxm, Int.reduceBEq, Int.reduceBNe, Int.reduceLT, Int.reduceLE, Int.reduceEq, Int.reduceGT, Int.reduceGE, Int.reduceToNat, ↓reduceIte, List.reduceReplicate, Nat.reduceAdd, Nat.reduceSub, Nat.reduceMul, Nat.reduceLT, Nat.reduceLeDiff, Nat.reduceBEq, Nat.reduceEqDiff]
  | true =>
  obtain ⟨hfew, he⟩ := htv rfl
  simp only [] at he
  have hsm := few_small hfew
  by_cases c1 : l.length > 60
  · have p1 : ((l.length : Int) > 60) = True := eq_true (by omega)
    refine ⟨?_⟩
    simp (config := { maxSteps := 4000000 }) only [↓sx0, ↓sx1, ↓sx2, ↓sx3, ↓sx4, ↓sx5, ↓sx6, sx0, sx1, sx2, sx3, sx4, sx5, sx6, tf6, ev3_hold, sxo, sxc, sxp, sxq, sxr, sxs, sxl, sxm, Int.reduceBEq, Int.reduceBNe, Int.reduceLT, Int.reduceLE, Int.reduceEq, Int.reduceGT, Int.reduceGE, Int.reduceToNat, ↓reduceIte, List.reduceReplicate, Nat.reduceAdd, Nat.reduceSub, Nat.reduceMul, Nat.reduceLT, Nat.reduceLeDiff, Nat.reduceBEq, Nat.reduceEqDiff, dn, p1]
    refine CallOb.pureH (fun w' hp => hwk _ w' hp) ?_
    rintro rW NW rfl
    refine ⟨?_⟩
    simp (config := { maxSteps := 4000000 }) only [↓sx0, ↓sx1, ↓sx2, ↓sx3, ↓sx4, ↓sx5, ↓sx6, sx0, sx1, sx2, sx3, sx4, sx5, sx6, tf6, ev3_hold, sxo, sxc, sxp, sxq, sxr, sxs, sxl, sxm, Int.reduceBEq, Int.reduceBNe, Int.reduceLT, Int.reduceLE, Int.reduceEq, Int.reduceGT, Int.reduceGE, Int.reduceToNat, ↓reduceIte, List.reduceReplicate, Nat.reduceAdd, Nat.reduceSub, Nat.reduceMul, Nat.reduceLT, Nat.reduceLeDiff, Nat.reduceBEq, Nat.reduceEqDiff]
  have p1 : ((l.length : Int) > 60) = False := eq_false (by omega)
  have hok := Vg.of_ok he
  obtain ⟨hsta, htc, hts⟩ := goE_zero he
  obtain ⟨_, hcls, hrmp, htt, hff⟩ := staE_zero hsta
  have hcb := (clsB_iff b).1 hcls
  have hiv1 := hiv he (by omega)
  have hgg := hgg1 hsm
  refine ⟨?_⟩
  simp (config := { maxSteps := 4000000 }) only [↓sx0, ↓sx1, ↓sx2, ↓sx3, ↓sx4, ↓sx5, ↓sx6, sx0, sx1, sx2, sx3, sx4, sx5, sx6, tf6, ev3_hold, sxo, sxc, sxp, sxq, sxr, sxs, sxl, sxm, Int.reduceBEq, Int.reduceBNe, Int.reduceLT, Int.reduceLE, Int.reduceEq, Int.reduceGT, Int.reduceGE, Int.reduceToNat, ↓reduceIte, List.reduceReplicate, Nat.reduceAdd, Nat.reduceSub, Nat.reduceMul, Nat.reduceLT, Nat.reduceLeDiff, Nat.reduceBEq, Nat.reduceEqDiff, dn, p1]
  refine CallOb.pureH (fun w' hp => hiv1 _ w' hp) ?_
  rintro q N2 ⟨V, bl, rfl, hV⟩
  cases bl with
  | false =>
    refine ⟨?_⟩
    simp (config := { maxSteps := 4000000 }) only [↓sx0, ↓sx1, ↓sx2, ↓sx3, ↓sx4, ↓sx5, ↓sx6, sx0, sx1, sx2, sx3, sx4, sx5, sx6, tf6, ev3_hold, sxo, sxc, sxp, sxq, sxr, sxs, sxl, sxm, Int.reduceBEq, Int.reduceBNe, Int.reduceLT, Int.reduceLE, Int.reduceEq, Int.reduceGT, Int.reduceGE, Int.reduceToNat, ↓reduceIte, List.reduceReplicate, Nat.reduceAdd, Nat.reduceSub, Nat.reduceMul, Nat.reduceLT, Nat.reduceLeDiff, Nat.reduceBEq, Nat.reduceEqDiff, dn]
    refine CallOb.pureH (fun w' hp => hwk _ w' hp) ?_
    rintro rW NW rfl
    refine ⟨?_⟩
    simp (config := { maxSteps := 4000000 }) only [↓sx0, ↓sx1, ↓sx2, ↓sx3, ↓sx4, ↓sx5, ↓sx6, sx0, sx1, sx2, sx3, sx4, sx5, sx6, tf6, ev3_hold, sxo, sxc, sxp, sxq, sxr, sxs, sxl, sxm, Int.reduceBEq, Int.reduceBNe, Int.reduceLT, Int.reduceLE, Int.reduceEq, Int.reduceGT, Int.reduceGE, Int.reduceToNat, ↓reduceIte, List.reduceReplicate, Nat.reduceAdd, Nat.reduceSub, Nat.reduceMul, Nat.reduceLT, Nat.reduceLeDiff, Nat.reduceBEq, Nat.reduceEqDiff]
  | true =>
  obtain ⟨hvy, hVe⟩ := hV rfl
  obtain ⟨y1, y2, y3, y4⟩ := hvy.r hok
  have y5 := Vg.R_reach hok y4 y2
  have y6 := (Vg.R_bd hok y4).2.2
  have y7 := hvy.1
  rw [← hVe] at y4 y6
  have hVb : 0 ≤ V ∧ V ≤ 6000 := by omega
  refine ⟨?_⟩
  simp (config := { maxSteps := 4000000 }) only [↓sx0, ↓sx1, ↓sx2, ↓sx3, ↓sx4, ↓sx5, ↓sx6, sx0, sx1, sx2, sx3, sx4, sx5, sx6, tf6, ev3_hold, sxo, sxc, sxp, sxq, sxr, sxs, sxl, sxm, Int.reduceBEq, Int.reduceBNe, Int.reduceLT, Int.reduceLE, Int.reduceEq, Int.reduceGT, Int.reduceGE, Int.reduceToNat, ↓reduceIte, List.reduceReplicate, Nat.reduceAdd, Nat.reduceSub, Nat.reduceMul, Nat.reduceLT, Nat.reduceLeDiff, Nat.reduceBEq, Nat.reduceEqDiff, dn]
  refine CallOb.pureH (fun w' hp => hgg _ w' hp) ?_
  rintro q N3 hG
  have hsh : ∃ why a n cp B, q = .tuple #[I why, .agg #[.slice a n cp, I B], I 0] ∧ ((why = 0 ∧ B ≤ V ∧ (V = B → n ≤ l.length)) ∨ (why = 4 ∧ V + b.reserve > f)) := by
    rcases hG with ⟨h, _⟩ | ⟨_, ⟨why, rfl, h⟩ | ⟨k1, k2, m, B, L, x, k3, k4, k5, k6, rfl, k7⟩⟩
    · exact absurd he h
    · refine ⟨why, _, _, _, _, rfl, ?_⟩
      rcases h with ⟨_, h⟩ | ⟨_, ⟨_, h⟩ | ⟨_, ⟨_, h⟩ | ⟨h4, m, B, h5, h6⟩⟩⟩
      · rw [y1] at h
        cases h
      · omega
      · exact absurd y4 (h _ _ y2 y3)
      · have h7 := (h5.least _ _ y2 y3 y4).1
        have h8 : (Vg.of c b r t tc ts).b.reserve = b.reserve := rfl
        exact .inr ⟨h4, by omega⟩
    · obtain ⟨ax, cx, rfl⟩ := k7.shape
      have h7 := k3.least _ _ y2 y3 y4
      refine ⟨0, _, _, _, _, rfl, .inl ⟨rfl, h7.1, fun h => ?_⟩⟩
      have h8 := h7.2 h
      unfold nts
      rw [List.length_map]
      omega
  obtain ⟨why, a, n, cp, B, rfl, hw1⟩ := hsh
  rcases hw1 with ⟨rfl, h1, h2⟩ | ⟨rfl, h1⟩
  · by_cases h3 : V > B
    · have q1 : (V > B) = True := eq_true h3
      refine ⟨?_⟩
      simp (config := { maxSteps := 4000000 }) only [↓sx0, ↓sx1, ↓sx2, ↓sx3, ↓sx4, ↓sx5, ↓sx6, sx0, sx1, sx2, sx3, sx4, sx5, sx6, tf6, ev3_hold, sxo, sxc, sxp, sxq, sxr, sxs, sxl, sxm, Int.reduceBEq, Int.reduceBNe, Int.reduceLT, Int.reduceLE, Int.reduceEq, Int.reduceGT, Int.reduceGE, Int.reduceToNat, ↓reduceIte, List.reduceReplicate, Nat.reduceAdd, Nat.reduceSub, Nat.reduceMul, Nat.reduceLT, Nat.reduceLeDiff, Nat.reduceBEq, Nat.reduceEqDiff, dn, q1]
      refine CallOb.pureH (fun w' hp => hwk _ w' hp) ?_
      rintro rW NW rfl
      refine ⟨?_⟩
      simp (config := { maxSteps := 4000000 }) only [↓sx0, ↓sx1, ↓sx2, ↓sx3, ↓sx4, ↓sx5, ↓sx6, sx0, sx1, sx2, sx3, sx4, sx5, sx6, tf6, ev3_hold, sxo, sxc, sxp, sxq, sxr, sxs, sxl, sxm, Int.reduceBEq, Int.reduceBNe, Int.reduceLT, Int.reduceLE, Int.reduceEq, Int.reduceGT, Int.reduceGE, Int.reduceToNat, ↓reduceIte, List.reduceReplicate, Nat.reduceAdd, Nat.reduceSub, Nat.reduceMul, Nat.reduceLT, Nat.reduceLeDiff, Nat.reduceBEq, Nat.reduceEqDiff]
    · have q1 : (V > B) = False := eq_false h3
      have q2 : (V = B) = True := eq_true (by omega)
      have h4 := h2 (by omega)
      have q3 : ((l.length : Int) ≥ (n : Int)) = True := eq_true (by omega)
      refine ⟨?_⟩
      simp (config := { maxSteps := 4000000 }) only [↓sx0, ↓sx1, ↓sx2, ↓sx3, ↓sx4, ↓sx5, ↓sx6, sx0, sx1, sx2, sx3, sx4, sx5, sx6, tf6, ev3_hold, sxo, sxc, sxp, sxq, sxr, sxs, sxl, sxm, Int.reduceBEq, Int.reduceBNe, Int.reduceLT, Int.reduceLE, Int.reduceEq, Int.reduceGT, Int.reduceGE, Int.reduceToNat, ↓reduceIte, List.reduceReplicate, Nat.reduceAdd, Nat.reduceSub, Nat.reduceMul, Nat.reduceLT, Nat.reduceLeDiff, Nat.reduceBEq, Nat.reduceEqDiff, dn, q1, q2, q3]
      refine CallOb.pureH (fun w' hp => hwk _ w' hp) ?_
      rintro rW NW rfl
      refine ⟨?_⟩
      simp (config := { maxSteps := 4000000 }) only [↓sx0, ↓sx1, ↓sx2, ↓sx3, ↓sx4, ↓sx5, ↓sx6, sx0, sx1, sx2, sx3, sx4, sx5, sx6, tf6, ev3_hold, sxo, sxc, sxp, sxq, sxr, sxs, sxl, sxm, Int.reduceBEq, Int.reduceBNe, Int.reduceLT, Int.reduceLE, Int.reduceEq, Int.reduceGT, Int.reduceGE, Int.reduceToNat, ↓reduceIte, List.reduceReplicate, Nat.reduceAdd, Nat.reduceSub, Nat.reduceMul, Nat.reduceLT, Nat.reduceLeDiff, Nat.reduceBEq, Nat.reduceEqDiff]
  · have q0 : ((4 : Int) = 0) = False := eq_false (by omega)
    have q1 : IntKind.i64.wrap (V + b.reserve) = V + b.reserve := wrap_id (by omega)
    have q2 : (V + b.reserve > f) = True := eq_true h1
    refine ⟨?_⟩
    simp (config := { maxSteps := 4000000 }) only [↓sx0, ↓sx1, ↓sx2, ↓sx3, ↓sx4, ↓sx5, ↓sx6, sx0, sx1, sx2, sx3, sx4, sx5, sx6, tf6, ev3_hold, sxo, sxc, sxp, sxq, sxr, sxs, sxl, sxm, Int.reduceBEq, Int.reduceBNe, Int.reduceLT, Int.reduceLE, Int.reduceEq, Int.reduceGT, Int.reduceGE, Int.reduceToNat, ↓reduceIte, List.reduceReplicate, Nat.reduceAdd, Nat.reduceSub, Nat.reduceMul, Nat.reduceLT, Nat.reduceLeDiff, Nat.reduceBEq, Nat.reduceEqDiff, dn, q0, q1, q2]
    refine CallOb.pureH (fun w' hp => hwk _ w' hp) ?_
    rintro rW NW rfl
    refine ⟨?_⟩
    simp (config := { maxSteps := 4000000 }) only [↓sx0, ↓sx1, ↓sx2, ↓sx3, ↓sx4, ↓sx5, ↓sx6, sx0, sx1, sx2, sx3, sx4, sx5, sx6, tf6, ev3_hold, sxo, sxc, sxp, sxq, sxr, sxs, sxl, sxm, Int.reduceBEq, Int.reduceBNe, Int.reduceLT, Int.reduceLE, Int.reduceEq, Int.reduceGT, Int.reduceGE, Int.reduceToNat, ↓reduceIte, List.reduceReplicate, Nat.reduceAdd, Nat.reduceSub, Nat.reduceMul, Nat.reduceLT, Nat.reduceLeDiff, Nat.reduceBEq, Nat.reduceEqDiff]

end Go.Proofs.YtcnlbnccbnapbaaDoor
