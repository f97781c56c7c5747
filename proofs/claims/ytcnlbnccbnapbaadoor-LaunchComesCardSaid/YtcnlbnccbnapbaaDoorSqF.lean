/- A part of a proof: the symbolic walk and what it shows of single functions. -/
import Derived.Test.YtcnlbnccbnapbaaDoorSqE
set_option linter.all false
namespace Go.Proofs.YtcnlbnccbnapbaaDoor
open Go.RowKit Go.SX
set_option maxRecDepth 10000
set_option maxHeartbeats 0
set_option linter.unusedSimpArgs false
set_option linter.unusedVariables false

def pl5_28 : Plan := (ones [0, 1, 2, 3, 4, 5, 6, 7, 8, 9, 11, 13] (.ld 10 (ones [12, 14, 15, 16, 17, 18, 19, 20, 21, 22, 24, 26] (.ld 23 (ones [25, 27, 28, 29, 30, 31, 32, 34, 36, 39, 40, 41, 42, 45] (.ld 33 (.ld 35 (ones [37, 38] (.ld 43 (.ld 46 (ones [44, 47, 48] .fin)))))))))))
def pl5 : List (Nat × Plan) := [(28, pl5_28)]
theorem pl5_lk : (lkO 28 pl5 = some pl5_28) ∧ (lkO 18 pl5 = none) ∧ (lkO 19 pl5 = none) ∧ (lkO 26 pl5 = none) := ⟨rfl, rfl, rfl, rfl⟩

theorem inW_take {S : List (Int × Int)} {t : Int} {i : Nat} {p : Int × Int} (h : S[i]? = some p) : (S.take (i + 1)).any (inW t) = ((S.take i).any (inW t) || inW t p) := by
  rw [List.take_add_one, h, List.any_append]
  simp

theorem ld_mono {w0 : Base} {H : List HO} {a : Addr} {K K' : SV → Prop} (h : hold (LdOb w0 H a none K) ⟨0⟩) (hm : ∀ s, K s → K' s) : hold (LdOb w0 H a none K') ⟨0⟩ := by
  obtain ⟨v, h1, h2⟩ := h
  exact ⟨v, h1, hm _ h2⟩

theorem launchComes_fn (w : World) (hw : Ways w) (v : Value) (c : Cht) (hc : ChOk w v c) (b : Cls) (o : Ord5) (vl : Value) (l : List Int) (hl : Sl w vl 1 (ints l)) :
    SX.Fn Tryd.prog 5 [v, clv b, orv o, vl] w (fun _ => False) fun r N => r = .bool true := by
  have hc0 := hc
  have hD := detO_ok (X := fun _ => False) hw hc (fun _ _ => id)
  have hwk := fun (H : List HO) w' (hp : Hp ⟨w, fun _ => False⟩ H w') => works5_fn w' (hw.hp hp)
  have hrdy := fun (H : List HO) w' (hp : Hp ⟨w, fun _ => False⟩ H w') => ready5_fn w' (hw.hp hp) v c (hc0.hp hp) b o
  obtain ⟨r, t, f, tc, ts⟩ := o
  have hgg1 := fun (hsm : c.small) (H : List HO) w' (hp : Hp ⟨w, fun _ => False⟩ H w') => go5_fn w' (hw.hp hp) v c (hc0.hp hp) hsm b r t f tc ts
  have hwi := fun (hok : c.ok) (hsm : c.small) (hr : rampB c (r.own b) = true) (H : List HO) w' (hp : Hp ⟨w, fun _ => False⟩ H w') => windows_fn w' v c (r.own b) (hc0.hp hp) hok hr hsm
  have hiv : ∀ (he : goE c b r t f tc ts = 0) (x : Value) (L : List Nat) (B : Int) (hvy : (Vg.of c b r t tc ts).isVy (rdyB c b r) (nts L)) (hvb : (Vg.of c b r t tc ts).vbn (nts L) L.length = B) (hb : L.length ≤ 1000) w' (hx : Sl w' x 1 (ints (nts L))) (H : List HO) (hp : Hp ⟨w, fun _ => False⟩ H w'), SX.Fn Tryd.prog 19 [v, clv b, rmv r, I t, .agg #[I tc, I ts], x] w' (fun _ => False) fun q N => q = .tuple #[I B, .bool true] := by
    intro he x L B hvy hvb hb w' hx H hp
    have hok := Vg.of_ok he
    obtain ⟨hsta, htc, hts⟩ := goE_zero he
    obtain ⟨_, hcls, hrmp, htt, hff⟩ := staE_zero hsta
    have hrc := ramp_cell hrmp
    have h1 := isVoyage_fn w' (hw.hp hp) v (Vg.of c b r t tc ts) hok (hc0.hp hp) r hrmp (show r.cell = ((r.cell.toNat : Nat) : Int) by omega) x (nts L) hx (by rw [nts_length]; exact hb)
    have e1 : (((Vg.of c b r t tc ts).t : Nat) : Int) = t := Int.toNat_of_nonneg htt.1
    have e2 : (((Vg.of c b r t tc ts).tc : Nat) : Int) = tc := Int.toNat_of_nonneg htc.1
    have e3 : (((Vg.of c b r t tc ts).ts : Nat) : Int) = ts := Int.toNat_of_nonneg hts.1
    rw [e1, e2, e3] at h1
    refine Fn.mono h1 fun q N ⟨B', bl, h2, h3, h4⟩ => ?_
    have hbl := h3.2 hvy
    rw [h2, h4 hbl, hbl, nts_length, hvb]
  obtain ⟨sD, sT, sS, rfl, hsD, hsT, hsS⟩ := hc
  obtain ⟨al, nl, cl, rfl⟩ := hl.shape
  obtain ⟨aS, nS, cS, rfl⟩ := hsS.shape
  obtain ⟨aT, nT, cT, rfl⟩ := hsT.shape
  have hnl := hl.le i1_len (by omega)
  have hnT := hsT.le spc_len (by omega)
  have hnS := hsS.le i1_len (by omega)
  subst hnl hnT hnS
  have hrS := hsS.rd0
  have hrT := hsT.rd0
  have hrH := hl.rd0
  have hov := fun (hok : c.ok) (k t : Nat) (h : Int) (hk : k < c.depth.length) (ht : t < c.tide.length) (hh : -10000 ≤ h ∧ h ≤ 10000) => show detO (.agg #[I c.wide, I c.high, sD, .slice aT c.tide.length cT, .slice aS c.swell.length cS]) c 26 [.agg #[I c.wide, I c.high, sD, .slice aT c.tide.length cT, .slice aS c.swell.length cS], I k, I t, I h] = some (I (c.over k t h)) from detM_over hok hk ht hh
  have dn : (∀ xs, detO (.agg #[I c.wide, I c.high, sD, .slice aT c.tide.length cT, .slice aS c.swell.length cS]) c 24 xs = none) ∧ (∀ xs, detO (.agg #[I c.wide, I c.high, sD, .slice aT c.tide.length cT, .slice aS c.swell.length cS]) c 15 xs = none) ∧ (∀ xs, detO (.agg #[I c.wide, I c.high, sD, .slice aT c.tide.length cT, .slice aS c.swell.length cS]) c 16 xs = none) ∧ (∀ xs, detO (.agg #[I c.wide, I c.high, sD, .slice aT c.tide.length cT, .slice aS c.swell.length cS]) c 19 xs = none) ∧ (∀ xs, detO (.agg #[I c.wide, I c.high, sD, .slice aT c.tide.length cT, .slice aS c.swell.length cS]) c 25 xs = none) := ⟨fun _ => rfl, fun _ => rfl, fun _ => rfl, fun _ => rfl, fun _ => rfl⟩
  unfold clv orv at hrdy ⊢
  unfold clv rmv at hgg1 hiv
  unfold rmv Rmp.own at hwi
  simp only [] at hwi
  refine walkC [38] [] pl5 hD Tryd.func5 rfl Tryd.ntmps5 res5 (by kernel_rfl) no_facts ?_
  simp (config := { maxSteps := 4000000 }) only [↓sx0, ↓sx1, ↓sx2, ↓sx3, ↓sx4, ↓sx5, ↓sx6, sx0, sx1, sx2, sx3, sx4, sx5, sx6, tf5, ev3_hold, sxo, sxc, sxp, sxq, sxr, sxs, sxl, sxm, Int.reduceBEq, Int.reduceBNe, Int.reduceLT, Int.reduceLE, Int.reduceEq, Int.reduceGT, Int.reduceGE, Int.reduceToNat, ↓reduceIte, List.reduceReplicate, Nat.reduceAdd, Nat.reduceSub, Nat.reduceMul, Nat.reduceLT, Nat.reduceLeDiff, Nat.reduceBEq, Nat.reduceEqDiff, dn]
  refine CallOb.pureH (fun w' hp => hrdy _ w' hp) ?_
  rintro q N ⟨tv, rfl, htv⟩
  cases tv with
  | false =>
    refine ⟨?_⟩
    simp (config := { maxSteps := 4000000 }) only [↓sx0, ↓sx1, ↓sx2, ↓sx3, ↓sx4, ↓sx5, ↓sx6, sx0, sx1, sx2, sx3, sx4, sx5, sx6, tf5, ev3_hold, sxo, sxc, sxp, sxq, sxr, sxs, sxl, sxm, Int.reduceBEq, Int.reduceBNe, Int.reduceLT, Int.reduceLE, Int.reduceEq, Int.reduceGT, Int.reduceGE, Int.reduceToNat, ↓reduceIte, List.reduceReplicate, Nat.reduceAdd, Nat.reduceSub, Nat.reduceMul, Nat.reduceLT, Nat.reduceLeDiff, Nat.reduceBEq, Nat.reduceEqDiff, dn]
    refine CallOb.pureH (fun w' hp => hwk _ w' hp) ?_
    rintro rW NW rfl
    refine ⟨?_⟩
    simp (config := { maxSteps := 4000000 }) only [↓sx0, ↓sx1, ↓sx2, ↓sx3, ↓sx4, ↓sx5, ↓sx6, sx0, sx1, sx2, sx3, sx4, sx5, sx6, tf5, ev3_hold, sxo, sxc, sxp, sxq, sxr, sxs, sxl, sxm, Int.reduceBEq, Int.reduceBNe, Int.reduceLT, Int.reduceLE, Int.reduceEq, Int.reduceGT, Int.reduceGE, Int.reduceToNat, ↓reduceIte, List.reduceReplicate, Nat.reduceAdd, Nat.reduceSub, Nat.reduceMul, Nat.reduceLT, Nat.reduceLeDiff, Nat.reduceBEq, Nat.reduceEqDiff]
  | true =>
  obtain ⟨hfew, he⟩ := htv rfl
  simp only [] at he
  have hsm := few_small hfew
  have hok := Vg.of_ok he
  obtain ⟨hsta, htc, hts⟩ := goE_zero he
  obtain ⟨hcok, hcls, hrmp, htt, hff⟩ := staE_zero hsta
  have hrc := ramp_cell hrmp
  have hcb := (clsB_iff b).1 hcls
  have hgg := hgg1 hsm
  have hiv1 := hiv he
  have h60 := hcok.2.2.2.1.2
  have hsw := hcok.2.2.2.2.1
  have hrw : rampB c (r.own b) = true := by
    have hr := hrmp
    unfold rampB at hr ⊢
    simp only [Bool.and_eq_true] at hr ⊢
    exact ⟨⟨⟨⟨hr.1.1.1.1, (inB_iff _ _ _).2 (by have := hcb.1; exact this)⟩, hr.1.1.2⟩, hr.1.2⟩, hr.2⟩
  have hwi1 := hwi hcok hsm hrw
  obtain ⟨T, hT⟩ : ∃ T : Nat, t = (T : Int) := ⟨t.toNat, by omega⟩
  have hTn : t.toNat = T := by omega
  refine ⟨?_⟩
  simp (config := { maxSteps := 4000000 }) only [↓sx0, ↓sx1, ↓sx2, ↓sx3, ↓sx4, ↓sx5, ↓sx6, sx0, sx1, sx2, sx3, sx4, sx5, sx6, tf5, ev3_hold, sxo, sxc, sxp, sxq, sxr, sxs, sxl, sxm, Int.reduceBEq, Int.reduceBNe, Int.reduceLT, Int.reduceLE, Int.reduceEq, Int.reduceGT, Int.reduceGE, Int.reduceToNat, ↓reduceIte, List.reduceReplicate, Nat.reduceAdd, Nat.reduceSub, Nat.reduceMul, Nat.reduceLT, Nat.reduceLeDiff, Nat.reduceBEq, Nat.reduceEqDiff, dn]
  refine CallOb.pureH (fun w' hp => hgg _ w' hp) ?_
  rintro q N2 hG
  have hsh : ∃ why x B, q = .tuple #[I why, .agg #[x, I B], I 0] ∧ (∃ a n cp, x = .slice a n cp) ∧ ((1 ≤ why ∧ why ≤ 4) ∨ (why = 0 ∧ ∃ L m, L.length = m + 1 ∧ T + m < c.tide.length ∧ Got x 3 1 i1 (nts L) N2 ∧ (Vg.of c b r t tc ts).isVy (rdyB c b r) (nts L) ∧ (Vg.of c b r t tc ts).vbn (nts L) L.length = B ∧ 0 ≤ B ∧ B + b.reserve ≤ f)) := by
    rcases hG with ⟨h, _⟩ | ⟨_, ⟨why, rfl, h⟩ | ⟨k1, k2, m, B, L, x, k3, k4, k5, k6, rfl, k7⟩⟩
    · exact absurd he h
    · refine ⟨why, _, _, rfl, ⟨_, _, _, rfl⟩, .inl ?_⟩
      rcases h with ⟨h, _⟩ | ⟨_, ⟨h, _⟩ | ⟨_, ⟨h, _⟩ | ⟨h, _⟩⟩⟩ <;> omega
    · obtain ⟨ax, cx, hx⟩ := k7.shape
      have h7 := Vg.PE_vy he k1 k3 k4 k5
      have h8 := (Vg.R_bd hok k3.r).2.2.1
      have h9 : T + m < c.tide.length := by rw [← hTn]; exact k3.lt
      exact ⟨0, x, B, rfl, ⟨_, _, _, hx⟩, .inr ⟨rfl, L, m, k5, h9, k7, h7.1, h7.2, h8, k6⟩⟩
  obtain ⟨why, x, B, rfl, ⟨a, n, cp, rfl⟩, hw1⟩ := hsh
  rcases hw1 with hw1 | ⟨rfl, L, m, hLm, hTm, hGx, hvy, hvb, hB0, hBf⟩
  · have q1 : (why < 0) = False := eq_false (by omega)
    have q2 : (why > 4) = False := eq_false (by omega)
    have q3 : (why = 0) = False := eq_false (by omega)
    refine ⟨?_⟩
    simp (config := { maxSteps := 4000000 }) only [↓sx0, ↓sx1, ↓sx2, ↓sx3, ↓sx4, ↓sx5, ↓sx6, sx0, sx1, sx2, sx3, sx4, sx5, sx6, tf5, ev3_hold, sxo, sxc, sxp, sxq, sxr, sxs, sxl, sxm, Int.reduceBEq, Int.reduceBNe, Int.reduceLT, Int.reduceLE, Int.reduceEq, Int.reduceGT, Int.reduceGE, Int.reduceToNat, ↓reduceIte, List.reduceReplicate, Nat.reduceAdd, Nat.reduceSub, Nat.reduceMul, Nat.reduceLT, Nat.reduceLeDiff, Nat.reduceBEq, Nat.reduceEqDiff, dn, q1, q2, q3]
    refine CallOb.pureH (fun w' hp => hwk _ w' hp) ?_
    rintro rW NW rfl
    refine ⟨?_⟩
    simp (config := { maxSteps := 4000000 }) only [↓sx0, ↓sx1, ↓sx2, ↓sx3, ↓sx4, ↓sx5, ↓sx6, sx0, sx1, sx2, sx3, sx4, sx5, sx6, tf5, ev3_hold, sxo, sxc, sxp, sxq, sxr, sxs, sxl, sxm, Int.reduceBEq, Int.reduceBNe, Int.reduceLT, Int.reduceLE, Int.reduceEq, Int.reduceGT, Int.reduceGE, Int.reduceToNat, ↓reduceIte, List.reduceReplicate, Nat.reduceAdd, Nat.reduceSub, Nat.reduceMul, Nat.reduceLT, Nat.reduceLeDiff, Nat.reduceBEq, Nat.reduceEqDiff]
  obtain ⟨ax, cx, hsx⟩ := hGx.shape
  rw [nts_length] at hsx
  injection hsx with hs1 hs2 hs3
  subst hs1 hs2 hs3
  have q0 : (((0 : Int) < 0) = False) ∧ (((0 : Int) > 4) = False) := ⟨eq_false (by omega), eq_false (by omega)⟩
  have hBw : IntKind.i64.wrap (B + b.reserve) = B + b.reserve := wrap_id (by omega)
  have q1 : (B + b.reserve > f) = False := eq_false (by omega)
  have hiv2 := hiv1 (.slice a L.length cp) L B hvy hvb (by omega)
  have hvt := hvy.2.2.2.2.2.2.1
  have hr0 := hvy.2.2.2.2.1
  have hre := hvy.2.2.2.2.2.1
  rw [nts_length] at hvt hre
  have eT : (Vg.of c b r t tc ts).t = T := hTn
  rw [eT] at hr0 hre
  refine ⟨?_⟩
  simp (config := { maxSteps := 4000000 }) only [↓sx0, ↓sx1, ↓sx2, ↓sx3, ↓sx4, ↓sx5, ↓sx6, sx0, sx1, sx2, sx3, sx4, sx5, sx6, tf5, ev3_hold, sxo, sxc, sxp, sxq, sxr, sxs, sxl, sxm, Int.reduceBEq, Int.reduceBNe, Int.reduceLT, Int.reduceLE, Int.reduceEq, Int.reduceGT, Int.reduceGE, Int.reduceToNat, ↓reduceIte, List.reduceReplicate, Nat.reduceAdd, Nat.reduceSub, Nat.reduceMul, Nat.reduceLT, Nat.reduceLeDiff, Nat.reduceBEq, Nat.reduceEqDiff, dn, q0]
  refine CallOb.pureH (fun w' hp => hiv2 w' (hGx.hp (fun h hm => List.mem_append_left _ hm) hp) _ hp) ?_
  rintro q N3 rfl
  refine ⟨?_⟩
  simp (config := { maxSteps := 4000000 }) only [↓sx0, ↓sx1, ↓sx2, ↓sx3, ↓sx4, ↓sx5, ↓sx6, sx0, sx1, sx2, sx3, sx4, sx5, sx6, tf5, ev3_hold, sxo, sxc, sxp, sxq, sxr, sxs, sxl, sxm, Int.reduceBEq, Int.reduceBNe, Int.reduceLT, Int.reduceLE, Int.reduceEq, Int.reduceGT, Int.reduceGE, Int.reduceToNat, ↓reduceIte, List.reduceReplicate, Nat.reduceAdd, Nat.reduceSub, Nat.reduceMul, Nat.reduceLT, Nat.reduceLeDiff, Nat.reduceBEq, Nat.reduceEqDiff, dn, hBw, q1]
  refine CallOb.pureH (fun w' hp => hwi1 _ w' hp) ?_
  rintro q N4 ⟨xs, ys, rfl, hGs0, _⟩
  have hGs : Got xs 54 2 spc (winL (sureT c (r.own b)) c.tide.length) N4 := hGs0
  clear hGs0
  have hSa := (winL_ok (sureT c (r.own b)) c.tide.length).2
  have hSl := winL_len (sureT c (r.own b)) c.tide.length
  obtain ⟨S, hS⟩ : ∃ S, winL (sureT c (r.own b)) c.tide.length = S := ⟨_, rfl⟩
  rw [hS] at hGs hSa hSl
  obtain ⟨axs, cxs, rfl⟩ := hGs.shape
  have hrs := hGs.rdv (w0 := ⟨w, fun _ => False⟩) (H := N4 ++ (N3 ++ (N2 ++ N))) spc_len (fun h hm => List.mem_append_left _ hm)
  have hrx := hGx.rdv (w0 := ⟨w, fun _ => False⟩) (H := N4 ++ (N3 ++ (N2 ++ N))) i1_len (fun h hm => List.mem_append_right _ (List.mem_append_right _ (List.mem_append_left _ hm)))
  have eu1 : IntKind.i64.wrap (t + (L.length : Int)) = t + L.length := wrap_id (by omega)
  have eu2 : IntKind.i64.wrap (t + (L.length : Int) - 1) = t + L.length - 1 := wrap_id (by omega)
  have hrdt : ∀ x : Nat, rdyB c b r x = true → sureT c (r.own b) x = true := fun x h => by
    unfold rdyB at h
    rw [Bool.and_eq_true] at h
    exact h.1
  have hAny1 : S.any (inW t) = true := by
    rw [hT, hSa T, hrdt T hr0, decide_eq_true (by omega)]
    rfl
  have hAny2 : S.any (inW (t + L.length - 1)) = true := by
    have h1 := hrdt (T + L.length - 1) hre
    rw [show t + (L.length : Int) - 1 = ((T + L.length - 1 : Nat) : Int) by omega, hSa, h1, decide_eq_true (by omega)]
    rfl
  obtain ⟨F1, G1⟩ : ∃ F1 : Nat → Bool, ∀ i, F1 i = (S.take i).any (inW t) := ⟨_, fun _ => rfl⟩
  obtain ⟨F2, G2⟩ : ∃ F2 : Nat → Bool, ∀ i, F2 i = (S.take i).any (inW (t + L.length - 1)) := ⟨_, fun _ => rfl⟩
  have z1 : F1 0 = false := by rw [G1]; rfl
  have z2 : F2 0 = false := by rw [G2]; rfl
  have e1 : F1 S.length = true := by rw [G1, List.take_length]; exact hAny1
  have e2 : F2 S.length = true := by rw [G2, List.take_length]; exact hAny2
  have s1 : ∀ i p, S[i]? = some p → F1 (i + 1) = (F1 i || inW t p) := fun i p h => by rw [G1, G1]; exact inW_take h
  have s2 : ∀ i p, S[i]? = some p → F2 (i + 1) = (F2 i || inW (t + L.length - 1) p) := fun i p h => by rw [G2, G2]; exact inW_take h
  clear G1 G2 hAny1 hAny2 hSa hrdt
  refine ⟨?_⟩
  simp (config := { maxSteps := 4000000 }) only [↓sx0, ↓sx1, ↓sx2, ↓sx3, ↓sx4, ↓sx5, ↓sx6, sx0, sx1, sx2, sx3, sx4, sx5, sx6, tf5, ev3_hold, sxo, sxc, sxp, sxq, sxr, sxs, sxl, sxm, Int.reduceBEq, Int.reduceBNe, Int.reduceLT, Int.reduceLE, Int.reduceEq, Int.reduceGT, Int.reduceGE, Int.reduceToNat, ↓reduceIte, List.reduceReplicate, Nat.reduceAdd, Nat.reduceSub, Nat.reduceMul, Nat.reduceLT, Nat.reduceLeDiff, Nat.reduceBEq, Nat.reduceEqDiff]
  refine loop_constH (N4 ++ (N3 ++ (N2 ++ N))) (HImp.refl _ _) [(18, 20), (100, 157)] (fun i : Nat => [(18, .bool (F1 i)), (19, .bool (F2 i)), (20, I i)])
    (fun i H1 => i ≤ S.length ∧ H1 = N4 ++ (N3 ++ (N2 ++ N))) (fun i => S.length - i) 0 ?_ ⟨Nat.zero_le _, rfl⟩ ?_
  · simp (config := { maxSteps := 4000000 }) only [↓sx0, ↓sx1, ↓sx2, ↓sx3, ↓sx4, ↓sx5, ↓sx6, sx0, sx1, sx2, sx3, sx4, sx5, sx6, tf5, ev3_hold, sxo, sxc, sxp, sxq, sxr, sxs, sxl, sxm, Int.reduceBEq, Int.reduceBNe, Int.reduceLT, Int.reduceLE, Int.reduceEq, Int.reduceGT, Int.reduceGE, Int.reduceToNat, ↓reduceIte, List.reduceReplicate, Nat.reduceAdd, Nat.reduceSub, Nat.reduceMul, Nat.reduceLT, Nat.reduceLeDiff, Nat.reduceBEq, Nat.reduceEqDiff, z1, z2]
    try simp
  rintro i H1 g1 ⟨hi, hH1⟩
  have hH2 := hH1.symm
  subst hH2
  by_cases hil : i = S.length
  case neg =>
    have k1 : ((i : Int) < (S.length : Int)) = True := eq_true (by omega)
    have k2 : IntKind.i64.wrap ((i : Int) + 1) = ((i + 1 : Nat) : Int) := (wrap_id (by omega)).trans (by omega)
    obtain ⟨p, hpp⟩ : ∃ p, S[i]? = some p := ⟨_, List.getElem?_eq_getElem (by omega)⟩
    have hn1 := s1 i p hpp
    have hn2 := s2 i p hpp
    refine ⟨?_⟩
    simp (config := { maxSteps := 4000000 }) only [↓sx0, ↓sx1, ↓sx2, ↓sx3, ↓sx4, ↓sx5, ↓sx6, sx0, sx1, sx2, sx3, sx4, sx5, sx6, tf5, ev3_hold, sxo, sxc, sxp, sxq, sxr, sxs, sxl, sxm, Int.reduceBEq, Int.reduceBNe, Int.reduceLT, Int.reduceLE, Int.reduceEq, Int.reduceGT, Int.reduceGE, Int.reduceToNat, ↓reduceIte, List.reduceReplicate, Nat.reduceAdd, Nat.reduceSub, Nat.reduceMul, Nat.reduceLT, Nat.reduceLeDiff, Nat.reduceBEq, Nat.reduceEqDiff, k1, pl5_lk]
    refine cut_constH [(18, 18), (106, 126)] (fun q : Bool => [(18, .bool q)]) (fun q H2 => q = F1 (i + 1) ∧ H2 = N4 ++ (N3 ++ (N2 ++ N))) ?_ ?_
    · rcases Bool.eq_false_or_eq_true (F1 i) with hf | hf
      · refine ⟨?_⟩
        simp (config := { maxSteps := 4000000 }) only [↓sx0, ↓sx1, ↓sx2, ↓sx3, ↓sx4, ↓sx5, ↓sx6, sx0, sx1, sx2, sx3, sx4, sx5, sx6, tf5, ev3_hold, sxo, sxc, sxp, sxq, sxr, sxs, sxl, sxm, Int.reduceBEq, Int.reduceBNe, Int.reduceLT, Int.reduceLE, Int.reduceEq, Int.reduceGT, Int.reduceGE, Int.reduceToNat, ↓reduceIte, List.reduceReplicate, Nat.reduceAdd, Nat.reduceSub, Nat.reduceMul, Nat.reduceLT, Nat.reduceLeDiff, Nat.reduceBEq, Nat.reduceEqDiff, hf, pl5_lk]
        exact ⟨true, _, rfl, HImp.refl _ _, by rw [hn1, hf]; rfl, rfl⟩
      by_cases c1 : p.1 ≤ t
      · have p1 : (p.1 ≤ t) = True := eq_true c1
        refine ⟨?_⟩
        simp (config := { maxSteps := 4000000 }) only [↓sx0, ↓sx1, ↓sx2, ↓sx3, ↓sx4, ↓sx5, ↓sx6, sx0, sx1, sx2, sx3, sx4, sx5, sx6, tf5, ev3_hold, sxo, sxc, sxp, sxq, sxr, sxs, sxl, sxm, Int.reduceBEq, Int.reduceBNe, Int.reduceLT, Int.reduceLE, Int.reduceEq, Int.reduceGT, Int.reduceGE, Int.reduceToNat, ↓reduceIte, List.reduceReplicate, Nat.reduceAdd, Nat.reduceSub, Nat.reduceMul, Nat.reduceLT, Nat.reduceLeDiff, Nat.reduceBEq, Nat.reduceEqDiff, hf, pl5_lk]
        refine at_f hrs spc_len hpp (o := 0) (x := I p.1) rfl fun ad1 => ?_
        simp (config := { maxSteps := 4000000 }) only [↓sx0, ↓sx1, ↓sx2, ↓sx3, ↓sx4, ↓sx5, ↓sx6, sx0, sx1, sx2, sx3, sx4, sx5, sx6, tf5, ev3_hold, sxo, sxc, sxp, sxq, sxr, sxs, sxl, sxm, Int.reduceBEq, Int.reduceBNe, Int.reduceLT, Int.reduceLE, Int.reduceEq, Int.reduceGT, Int.reduceGE, Int.reduceToNat, ↓reduceIte, List.reduceReplicate, Nat.reduceAdd, Nat.reduceSub, Nat.reduceMul, Nat.reduceLT, Nat.reduceLeDiff, Nat.reduceBEq, Nat.reduceEqDiff, p1, pl5_lk]
        refine at_f hrs spc_len hpp (o := 1) (x := I p.2) rfl fun ad2 => ?_
        simp (config := { maxSteps := 4000000 }) only [↓sx0, ↓sx1, ↓sx2, ↓sx3, ↓sx4, ↓sx5, ↓sx6, sx0, sx1, sx2, sx3, sx4, sx5, sx6, tf5, ev3_hold, sxo, sxc, sxp, sxq, sxr, sxs, sxl, sxm, Int.reduceBEq, Int.reduceBNe, Int.reduceLT, Int.reduceLE, Int.reduceEq, Int.reduceGT, Int.reduceGE, Int.reduceToNat, ↓reduceIte, List.reduceReplicate, Nat.reduceAdd, Nat.reduceSub, Nat.reduceMul, Nat.reduceLT, Nat.reduceLeDiff, Nat.reduceBEq, Nat.reduceEqDiff, pl5_lk]
        exact ⟨decide (t ≤ p.2), _, rfl, HImp.refl _ _, by rw [hn1, hf]; unfold inW; rw [decide_eq_true c1]; simp, rfl⟩
      · have p1 : (p.1 ≤ t) = False := eq_false c1
        refine ⟨?_⟩
        simp (config := { maxSteps := 4000000 }) only [↓sx0, ↓sx1, ↓sx2, ↓sx3, ↓sx4, ↓sx5, ↓sx6, sx0, sx1, sx2, sx3, sx4, sx5, sx6, tf5, ev3_hold, sxo, sxc, sxp, sxq, sxr, sxs, sxl, sxm, Int.reduceBEq, Int.reduceBNe, Int.reduceLT, Int.reduceLE, Int.reduceEq, Int.reduceGT, Int.reduceGE, Int.reduceToNat, ↓reduceIte, List.reduceReplicate, Nat.reduceAdd, Nat.reduceSub, Nat.reduceMul, Nat.reduceLT, Nat.reduceLeDiff, Nat.reduceBEq, Nat.reduceEqDiff, hf, pl5_lk]
        refine at_f hrs spc_len hpp (o := 0) (x := I p.1) rfl fun ad1 => ?_
        simp (config := { maxSteps := 4000000 }) only [↓sx0, ↓sx1, ↓sx2, ↓sx3, ↓sx4, ↓sx5, ↓sx6, sx0, sx1, sx2, sx3, sx4, sx5, sx6, tf5, ev3_hold, sxo, sxc, sxp, sxq, sxr, sxs, sxl, sxm, Int.reduceBEq, Int.reduceBNe, Int.reduceLT, Int.reduceLE, Int.reduceEq, Int.reduceGT, Int.reduceGE, Int.reduceToNat, ↓reduceIte, List.reduceReplicate, Nat.reduceAdd, Nat.reduceSub, Nat.reduceMul, Nat.reduceLT, Nat.reduceLeDiff, Nat.reduceBEq, Nat.reduceEqDiff, p1, pl5_lk]
        exact ⟨false, _, rfl, HImp.refl _ _, by rw [hn1, hf]; unfold inW; rw [decide_eq_false c1]; rfl, rfl⟩
    rintro q H2 g2 ⟨hq, hH2⟩
    have hH3 := hH2.symm
    subst hH3
    rw [← hq] at hn1
    rcases Bool.eq_false_or_eq_true (F2 i) with hf | hf
    · refine ⟨?_⟩
      simp (config := { maxSteps := 4000000 }) only [↓sx0, ↓sx1, ↓sx2, ↓sx3, ↓sx4, ↓sx5, ↓sx6, sx0, sx1, sx2, sx3, sx4, sx5, sx6, tf5, ev3_hold, sxo, sxc, sxp, sxq, sxr, sxs, sxl, sxm, Int.reduceBEq, Int.reduceBNe, Int.reduceLT, Int.reduceLE, Int.reduceEq, Int.reduceGT, Int.reduceGE, Int.reduceToNat, ↓reduceIte, List.reduceReplicate, Nat.reduceAdd, Nat.reduceSub, Nat.reduceMul, Nat.reduceLT, Nat.reduceLeDiff, Nat.reduceBEq, Nat.reduceEqDiff, hf, k2, pl5_lk]
      refine ⟨i + 1, _, ⟨by rw [hq], by rw [hn2, hf]; rfl, rfl⟩, HImp.refl _ _, ⟨by omega, rfl⟩, by omega⟩
    by_cases c1 : p.1 ≤ t + L.length - 1
    · have p1 : (p.1 ≤ t + L.length - 1) = True := eq_true c1
      refine ⟨?_⟩
      simp (config := { maxSteps := 4000000 }) only [↓sx0, ↓sx1, ↓sx2, ↓sx3, ↓sx4, ↓sx5, ↓sx6, sx0, sx1, sx2, sx3, sx4, sx5, sx6, tf5, ev3_hold, sxo, sxc, sxp, sxq, sxr, sxs, sxl, sxm, Int.reduceBEq, Int.reduceBNe, Int.reduceLT, Int.reduceLE, Int.reduceEq, Int.reduceGT, Int.reduceGE, Int.reduceToNat, ↓reduceIte, List.reduceReplicate, Nat.reduceAdd, Nat.reduceSub, Nat.reduceMul, Nat.reduceLT, Nat.reduceLeDiff, Nat.reduceBEq, Nat.reduceEqDiff, hf, pl5_lk]
      refine at_f hrs spc_len hpp (o := 0) (x := I p.1) rfl fun ad1 => ?_
      simp (config := { maxSteps := 4000000 }) only [↓sx0, ↓sx1, ↓sx2, ↓sx3, ↓sx4, ↓sx5, ↓sx6, sx0, sx1, sx2, sx3, sx4, sx5, sx6, tf5, ev3_hold, sxo, sxc, sxp, sxq, sxr, sxs, sxl, sxm, Int.reduceBEq, Int.reduceBNe, Int.reduceLT, Int.reduceLE, Int.reduceEq, Int.reduceGT, Int.reduceGE, Int.reduceToNat, ↓reduceIte, List.reduceReplicate, Nat.reduceAdd, Nat.reduceSub, Nat.reduceMul, Nat.reduceLT, Nat.reduceLeDiff, Nat.reduceBEq, Nat.reduceEqDiff, eu1, eu2, p1, pl5_lk]
      refine at_f hrs spc_len hpp (o := 1) (x := I p.2) rfl fun ad2 => ?_
      simp (config := { maxSteps := 4000000 }) only [↓sx0, ↓sx1, ↓sx2, ↓sx3, ↓sx4, ↓sx5, ↓sx6, sx0, sx1, sx2, sx3, sx4, sx5, sx6, tf5, ev3_hold, sxo, sxc, sxp, sxq, sxr, sxs, sxl, sxm, Int.reduceBEq, Int.reduceBNe, Int.reduceLT, Int.reduceLE, Int.reduceEq, Int.reduceGT, Int.reduceGE, Int.reduceToNat, ↓reduceIte, List.reduceReplicate, Nat.reduceAdd, Nat.reduceSub, Nat.reduceMul, Nat.reduceLT, Nat.reduceLeDiff, Nat.reduceBEq, Nat.reduceEqDiff, k2, pl5_lk]
      exact ⟨i + 1, _, ⟨by rw [hq], by rw [hn2, hf]; unfold inW; rw [decide_eq_true c1]; simp, rfl⟩, HImp.refl _ _, ⟨by omega, rfl⟩, by omega⟩
    · have p1 : (p.1 ≤ t + L.length - 1) = False := eq_false c1
      refine ⟨?_⟩
      simp (config := { maxSteps := 4000000 }) only [↓sx0, ↓sx1, ↓sx2, ↓sx3, ↓sx4, ↓sx5, ↓sx6, sx0, sx1, sx2, sx3, sx4, sx5, sx6, tf5, ev3_hold, sxo, sxc, sxp, sxq, sxr, sxs, sxl, sxm, Int.reduceBEq, Int.reduceBNe, Int.reduceLT, Int.reduceLE, Int.reduceEq, Int.reduceGT, Int.reduceGE, Int.reduceToNat, ↓reduceIte, List.reduceReplicate, Nat.reduceAdd, Nat.reduceSub, Nat.reduceMul, Nat.reduceLT, Nat.reduceLeDiff, Nat.reduceBEq, Nat.reduceEqDiff, hf, pl5_lk]
      refine at_f hrs spc_len hpp (o := 0) (x := I p.1) rfl fun ad1 => ?_
      simp (config := { maxSteps := 4000000 }) only [↓sx0, ↓sx1, ↓sx2, ↓sx3, ↓sx4, ↓sx5, ↓sx6, sx0, sx1, sx2, sx3, sx4, sx5, sx6, tf5, ev3_hold, sxo, sxc, sxp, sxq, sxr, sxs, sxl, sxm, Int.reduceBEq, Int.reduceBNe, Int.reduceLT, Int.reduceLE, Int.reduceEq, Int.reduceGT, Int.reduceGE, Int.reduceToNat, ↓reduceIte, List.reduceReplicate, Nat.reduceAdd, Nat.reduceSub, Nat.reduceMul, Nat.reduceLT, Nat.reduceLeDiff, Nat.reduceBEq, Nat.reduceEqDiff, eu1, eu2, p1, k2, pl5_lk]
      exact ⟨i + 1, _, ⟨by rw [hq], by rw [hn2, hf]; unfold inW; rw [decide_eq_false c1]; rfl, rfl⟩, HImp.refl _ _, ⟨by omega, rfl⟩, by omega⟩
  subst hil
  have k1 : ((S.length : Int) < (S.length : Int)) = False := eq_false (by omega)
  refine ⟨?_⟩
  simp (config := { maxSteps := 4000000 }) only [↓sx0, ↓sx1, ↓sx2, ↓sx3, ↓sx4, ↓sx5, ↓sx6, sx0, sx1, sx2, sx3, sx4, sx5, sx6, tf5, ev3_hold, sxo, sxc, sxp, sxq, sxr, sxs, sxl, sxm, Int.reduceBEq, Int.reduceBNe, Int.reduceLT, Int.reduceLE, Int.reduceEq, Int.reduceGT, Int.reduceGE, Int.reduceToNat, ↓reduceIte, List.reduceReplicate, Nat.reduceAdd, Nat.reduceSub, Nat.reduceMul, Nat.reduceLT, Nat.reduceLeDiff, Nat.reduceBEq, Nat.reduceEqDiff, k1, e1, e2]
  refine loop_constH (N4 ++ (N3 ++ (N2 ++ N))) (HImp.refl _ _) [(8, 8), (21, 22), (168, 235)] (fun i : Nat => [(21, I i)])
    (fun i H1 => i ≤ L.length ∧ H1 = N4 ++ (N3 ++ (N2 ++ N))) (fun i => L.length - i) 0 ?_ ⟨Nat.zero_le _, rfl⟩ ?_
  · simp (config := { maxSteps := 4000000 }) only [↓sx0, ↓sx1, ↓sx2, ↓sx3, ↓sx4, ↓sx5, ↓sx6, sx0, sx1, sx2, sx3, sx4, sx5, sx6, tf5, ev3_hold, sxo, sxc, sxp, sxq, sxr, sxs, sxl, sxm, Int.reduceBEq, Int.reduceBNe, Int.reduceLT, Int.reduceLE, Int.reduceEq, Int.reduceGT, Int.reduceGE, Int.reduceToNat, ↓reduceIte, List.reduceReplicate, Nat.reduceAdd, Nat.reduceSub, Nat.reduceMul, Nat.reduceLT, Nat.reduceLeDiff, Nat.reduceBEq, Nat.reduceEqDiff]
    try simp
  rintro i H1 g1 ⟨hi, hH1⟩
  have hH2 := hH1.symm
  subst hH2
  by_cases hil : i = L.length
  · subst hil
    have k1 : ((L.length : Int) < (L.length : Int)) = False := eq_false (by omega)
    refine ⟨?_⟩
    simp (config := { maxSteps := 4000000 }) only [↓sx0, ↓sx1, ↓sx2, ↓sx3, ↓sx4, ↓sx5, ↓sx6, sx0, sx1, sx2, sx3, sx4, sx5, sx6, tf5, ev3_hold, sxo, sxc, sxp, sxq, sxr, sxs, sxl, sxm, Int.reduceBEq, Int.reduceBNe, Int.reduceLT, Int.reduceLE, Int.reduceEq, Int.reduceGT, Int.reduceGE, Int.reduceToNat, ↓reduceIte, List.reduceReplicate, Nat.reduceAdd, Nat.reduceSub, Nat.reduceMul, Nat.reduceLT, Nat.reduceLeDiff, Nat.reduceBEq, Nat.reduceEqDiff, k1, dn]
    refine CallOb.pureH (fun w' hp => hwk _ w' hp) ?_
    rintro rW NW rfl
    refine ⟨?_⟩
    simp (config := { maxSteps := 4000000 }) only [↓sx0, ↓sx1, ↓sx2, ↓sx3, ↓sx4, ↓sx5, ↓sx6, sx0, sx1, sx2, sx3, sx4, sx5, sx6, tf5, ev3_hold, sxo, sxc, sxp, sxq, sxr, sxs, sxl, sxm, Int.reduceBEq, Int.reduceBNe, Int.reduceLT, Int.reduceLE, Int.reduceEq, Int.reduceGT, Int.reduceGE, Int.reduceToNat, ↓reduceIte, List.reduceReplicate, Nat.reduceAdd, Nat.reduceSub, Nat.reduceMul, Nat.reduceLT, Nat.reduceLeDiff, Nat.reduceBEq, Nat.reduceEqDiff]
  have k1 : ((i : Int) < (L.length : Int)) = True := eq_true (by omega)
  have k2 : IntKind.i64.wrap ((i : Int) + 1) = ((i + 1 : Nat) : Int) := (wrap_id (by omega)).trans (by omega)
  have k3 : IntKind.i64.wrap (t + (i : Int)) = ((T + i : Nat) : Int) := (wrap_id (by omega)).trans (by omega)
  obtain ⟨x, hx⟩ : ∃ x, L[i]? = some x := ⟨_, List.getElem?_eq_getElem (by omega)⟩
  have hxn : (nts L)[i]? = some (x : Int) := by unfold nts; rw [List.getElem?_map, hx]; rfl
  have hxg : (nts L).getD i 0 = (x : Int) := by rw [List.getD_eq_getElem?_getD, hxn]; rfl
  obtain ⟨v1, v2, _⟩ := hvt i (by omega)
  rw [hxg] at v1
  rw [Vg.ct_nts hx, eT] at v2
  have hxd : x < c.depth.length := by have h : (x : Int) < (c.depth.length : Int) := v1.2; omega
  have v3 : c.over x (T + i) (c.tlo (T + i)) ≥ b.draught ∧ c.swl (T + i) ≤ b.seas := by
    have h : canB c b (T + i) x = true := v2
    unfold canB at h
    rw [Bool.and_eq_true, decide_eq_true_eq, decide_eq_true_eq] at h
    exact h
  clear v1 v2
  have htd : T + i < c.tide.length := by omega
  have hbd := hcok.bds hxd htd
  have hsg : (c.swell.getD (T + i) 0 > b.seas) = False := eq_false (by have : c.swell.getD (T + i) 0 = c.swl (T + i) := rfl; omega)
  have hgt : c.tide[T + i]? = some (c.tlo (T + i), c.thi (T + i)) := getD_at htd (0, 0)
  refine ⟨?_⟩
  simp (config := { maxSteps := 4000000 }) only [↓sx0, ↓sx1, ↓sx2, ↓sx3, ↓sx4, ↓sx5, ↓sx6, sx0, sx1, sx2, sx3, sx4, sx5, sx6, tf5, ev3_hold, sxo, sxc, sxp, sxq, sxr, sxs, sxl, sxm, Int.reduceBEq, Int.reduceBNe, Int.reduceLT, Int.reduceLE, Int.reduceEq, Int.reduceGT, Int.reduceGE, Int.reduceToNat, ↓reduceIte, List.reduceReplicate, Nat.reduceAdd, Nat.reduceSub, Nat.reduceMul, Nat.reduceLT, Nat.reduceLeDiff, Nat.reduceBEq, Nat.reduceEqDiff, k1, k3, pl5_lk]
  refine at_1 (hrS _) i1_len (getD_at (show T + i < c.swell.length by omega) 0) rfl fun ad3 => ?_
  by_cases hle : l.length = c.tide.length
  case neg =>
    have z1 : ((l.length : Int) = (c.tide.length : Int)) = False := eq_false (by omega)
    simp (config := { maxSteps := 4000000 }) only [↓sx0, ↓sx1, ↓sx2, ↓sx3, ↓sx4, ↓sx5, ↓sx6, sx0, sx1, sx2, sx3, sx4, sx5, sx6, tf5, ev3_hold, sxo, sxc, sxp, sxq, sxr, sxs, sxl, sxm, Int.reduceBEq, Int.reduceBNe, Int.reduceLT, Int.reduceLE, Int.reduceEq, Int.reduceGT, Int.reduceGE, Int.reduceToNat, ↓reduceIte, List.reduceReplicate, Nat.reduceAdd, Nat.reduceSub, Nat.reduceMul, Nat.reduceLT, Nat.reduceLeDiff, Nat.reduceBEq, Nat.reduceEqDiff, hsg, z1, k2, pl5_lk, pl5_28]
    exact ⟨i + 1, _, rfl, HImp.refl _ _, ⟨by omega, rfl⟩, by omega⟩
  have z1 : ((l.length : Int) = (c.tide.length : Int)) = True := eq_true (by omega)
  have hgh : l[T + i]? = some (l.getD (T + i) 0) := getD_at (by omega) 0
  by_cases c1 : l.getD (T + i) 0 ≥ c.tlo (T + i)
  case neg =>
    have z2 : (l.getD (T + i) 0 ≥ c.tlo (T + i)) = False := eq_false c1
    simp (config := { maxSteps := 4000000 }) only [↓sx0, ↓sx1, ↓sx2, ↓sx3, ↓sx4, ↓sx5, ↓sx6, sx0, sx1, sx2, sx3, sx4, sx5, sx6, tf5, ev3_hold, sxo, sxc, sxp, sxq, sxr, sxs, sxl, sxm, Int.reduceBEq, Int.reduceBNe, Int.reduceLT, Int.reduceLE, Int.reduceEq, Int.reduceGT, Int.reduceGE, Int.reduceToNat, ↓reduceIte, List.reduceReplicate, Nat.reduceAdd, Nat.reduceSub, Nat.reduceMul, Nat.reduceLT, Nat.reduceLeDiff, Nat.reduceBEq, Nat.reduceEqDiff, hsg, z1, pl5_lk, pl5_28]
    refine at_1 (hrH _) i1_len hgh rfl fun ad4 => ?_
    simp (config := { maxSteps := 4000000 }) only [↓sx0, ↓sx1, ↓sx2, ↓sx3, ↓sx4, ↓sx5, ↓sx6, sx0, sx1, sx2, sx3, sx4, sx5, sx6, tf5, ev3_hold, sxo, sxc, sxp, sxq, sxr, sxs, sxl, sxm, Int.reduceBEq, Int.reduceBNe, Int.reduceLT, Int.reduceLE, Int.reduceEq, Int.reduceGT, Int.reduceGE, Int.reduceToNat, ↓reduceIte, List.reduceReplicate, Nat.reduceAdd, Nat.reduceSub, Nat.reduceMul, Nat.reduceLT, Nat.reduceLeDiff, Nat.reduceBEq, Nat.reduceEqDiff, pl5_lk, pl5_28]
    refine at_f (hrT _) spc_len hgt (o := 0) (x := I (c.tlo (T + i))) rfl fun ad5 => ?_
    simp (config := { maxSteps := 4000000 }) only [↓sx0, ↓sx1, ↓sx2, ↓sx3, ↓sx4, ↓sx5, ↓sx6, sx0, sx1, sx2, sx3, sx4, sx5, sx6, tf5, ev3_hold, sxo, sxc, sxp, sxq, sxr, sxs, sxl, sxm, Int.reduceBEq, Int.reduceBNe, Int.reduceLT, Int.reduceLE, Int.reduceEq, Int.reduceGT, Int.reduceGE, Int.reduceToNat, ↓reduceIte, List.reduceReplicate, Nat.reduceAdd, Nat.reduceSub, Nat.reduceMul, Nat.reduceLT, Nat.reduceLeDiff, Nat.reduceBEq, Nat.reduceEqDiff, z2, k2, pl5_lk, pl5_28]
    exact ⟨i + 1, _, rfl, HImp.refl _ _, ⟨by omega, rfl⟩, by omega⟩
  have z2 : (l.getD (T + i) 0 ≥ c.tlo (T + i)) = True := eq_true c1
  by_cases c2 : l.getD (T + i) 0 ≤ c.thi (T + i)
  case neg =>
    have z3 : (l.getD (T + i) 0 ≤ c.thi (T + i)) = False := eq_false c2
    simp (config := { maxSteps := 4000000 }) only [↓sx0, ↓sx1, ↓sx2, ↓sx3, ↓sx4, ↓sx5, ↓sx6, sx0, sx1, sx2, sx3, sx4, sx5, sx6, tf5, ev3_hold, sxo, sxc, sxp, sxq, sxr, sxs, sxl, sxm, Int.reduceBEq, Int.reduceBNe, Int.reduceLT, Int.reduceLE, Int.reduceEq, Int.reduceGT, Int.reduceGE, Int.reduceToNat, ↓reduceIte, List.reduceReplicate, Nat.reduceAdd, Nat.reduceSub, Nat.reduceMul, Nat.reduceLT, Nat.reduceLeDiff, Nat.reduceBEq, Nat.reduceEqDiff, hsg, z1, pl5_lk, pl5_28]
    refine at_1 (hrH _) i1_len hgh rfl fun ad4 => ?_
    simp (config := { maxSteps := 4000000 }) only [↓sx0, ↓sx1, ↓sx2, ↓sx3, ↓sx4, ↓sx5, ↓sx6, sx0, sx1, sx2, sx3, sx4, sx5, sx6, tf5, ev3_hold, sxo, sxc, sxp, sxq, sxr, sxs, sxl, sxm, Int.reduceBEq, Int.reduceBNe, Int.reduceLT, Int.reduceLE, Int.reduceEq, Int.reduceGT, Int.reduceGE, Int.reduceToNat, ↓reduceIte, List.reduceReplicate, Nat.reduceAdd, Nat.reduceSub, Nat.reduceMul, Nat.reduceLT, Nat.reduceLeDiff, Nat.reduceBEq, Nat.reduceEqDiff, pl5_lk, pl5_28]
    refine at_f (hrT _) spc_len hgt (o := 0) (x := I (c.tlo (T + i))) rfl fun ad5 => ?_
    simp (config := { maxSteps := 4000000 }) only [↓sx0, ↓sx1, ↓sx2, ↓sx3, ↓sx4, ↓sx5, ↓sx6, sx0, sx1, sx2, sx3, sx4, sx5, sx6, tf5, ev3_hold, sxo, sxc, sxp, sxq, sxr, sxs, sxl, sxm, Int.reduceBEq, Int.reduceBNe, Int.reduceLT, Int.reduceLE, Int.reduceEq, Int.reduceGT, Int.reduceGE, Int.reduceToNat, ↓reduceIte, List.reduceReplicate, Nat.reduceAdd, Nat.reduceSub, Nat.reduceMul, Nat.reduceLT, Nat.reduceLeDiff, Nat.reduceBEq, Nat.reduceEqDiff, z2, pl5_lk, pl5_28]
    refine at_1 (hrH _) i1_len hgh rfl fun ad6 => ?_
    simp (config := { maxSteps := 4000000 }) only [↓sx0, ↓sx1, ↓sx2, ↓sx3, ↓sx4, ↓sx5, ↓sx6, sx0, sx1, sx2, sx3, sx4, sx5, sx6, tf5, ev3_hold, sxo, sxc, sxp, sxq, sxr, sxs, sxl, sxm, Int.reduceBEq, Int.reduceBNe, Int.reduceLT, Int.reduceLE, Int.reduceEq, Int.reduceGT, Int.reduceGE, Int.reduceToNat, ↓reduceIte, List.reduceReplicate, Nat.reduceAdd, Nat.reduceSub, Nat.reduceMul, Nat.reduceLT, Nat.reduceLeDiff, Nat.reduceBEq, Nat.reduceEqDiff, pl5_lk, pl5_28]
    refine at_f (hrT _) spc_len hgt (o := 1) (x := I (c.thi (T + i))) rfl fun ad7 => ?_
    simp (config := { maxSteps := 4000000 }) only [↓sx0, ↓sx1, ↓sx2, ↓sx3, ↓sx4, ↓sx5, ↓sx6, sx0, sx1, sx2, sx3, sx4, sx5, sx6, tf5, ev3_hold, sxo, sxc, sxp, sxq, sxr, sxs, sxl, sxm, Int.reduceBEq, Int.reduceBNe, Int.reduceLT, Int.reduceLE, Int.reduceEq, Int.reduceGT, Int.reduceGE, Int.reduceToNat, ↓reduceIte, List.reduceReplicate, Nat.reduceAdd, Nat.reduceSub, Nat.reduceMul, Nat.reduceLT, Nat.reduceLeDiff, Nat.reduceBEq, Nat.reduceEqDiff, z3, k2, pl5_lk, pl5_28]
    exact ⟨i + 1, _, rfl, HImp.refl _ _, ⟨by omega, rfl⟩, by omega⟩
  have z3 : (l.getD (T + i) 0 ≤ c.thi (T + i)) = True := eq_true c2
  obtain ⟨i1h, i2h, adh, hadh, hld⟩ := at_1 (K := fun _ s => s = .v (I (l.getD (T + i) 0))) (hrH []) i1_len hgh rfl (fun _ => rfl)
  have hov1 := hov hcok x (T + i) (l.getD (T + i) 0) hxd htd (by omega)
  have z5 : (c.over x (T + i) (l.getD (T + i) 0) < b.draught) = False := eq_false (by have h := v3.1; unfold Cht.over at h ⊢; omega)
  simp (config := { maxSteps := 4000000 }) only [↓sx0, ↓sx1, ↓sx2, ↓sx3, ↓sx4, ↓sx5, ↓sx6, sx0, sx1, sx2, sx3, sx4, sx5, sx6, tf5, ev3_hold, sxo, sxc, sxp, sxq, sxr, sxs, sxl, sxm, Int.reduceBEq, Int.reduceBNe, Int.reduceLT, Int.reduceLE, Int.reduceEq, Int.reduceGT, Int.reduceGE, Int.reduceToNat, ↓reduceIte, List.reduceReplicate, Nat.reduceAdd, Nat.reduceSub, Nat.reduceMul, Nat.reduceLT, Nat.reduceLeDiff, Nat.reduceBEq, Nat.reduceEqDiff, hsg, z1, pl5_lk, pl5_28]
  refine at_1 (hrH _) i1_len hgh rfl fun ad4 => ?_
  simp (config := { maxSteps := 4000000 }) only [↓sx0, ↓sx1, ↓sx2, ↓sx3, ↓sx4, ↓sx5, ↓sx6, sx0, sx1, sx2, sx3, sx4, sx5, sx6, tf5, ev3_hold, sxo, sxc, sxp, sxq, sxr, sxs, sxl, sxm, Int.reduceBEq, Int.reduceBNe, Int.reduceLT, Int.reduceLE, Int.reduceEq, Int.reduceGT, Int.reduceGE, Int.reduceToNat, ↓reduceIte, List.reduceReplicate, Nat.reduceAdd, Nat.reduceSub, Nat.reduceMul, Nat.reduceLT, Nat.reduceLeDiff, Nat.reduceBEq, Nat.reduceEqDiff, pl5_lk, pl5_28]
  refine at_f (hrT _) spc_len hgt (o := 0) (x := I (c.tlo (T + i))) rfl fun ad5 => ?_
  simp (config := { maxSteps := 4000000 }) only [↓sx0, ↓sx1, ↓sx2, ↓sx3, ↓sx4, ↓sx5, ↓sx6, sx0, sx1, sx2, sx3, sx4, sx5, sx6, tf5, ev3_hold, sxo, sxc, sxp, sxq, sxr, sxs, sxl, sxm, Int.reduceBEq, Int.reduceBNe, Int.reduceLT, Int.reduceLE, Int.reduceEq, Int.reduceGT, Int.reduceGE, Int.reduceToNat, ↓reduceIte, List.reduceReplicate, Nat.reduceAdd, Nat.reduceSub, Nat.reduceMul, Nat.reduceLT, Nat.reduceLeDiff, Nat.reduceBEq, Nat.reduceEqDiff, z2, pl5_lk, pl5_28]
  refine at_1 (hrH _) i1_len hgh rfl fun ad6 => ?_
  simp (config := { maxSteps := 4000000 }) only [↓sx0, ↓sx1, ↓sx2, ↓sx3, ↓sx4, ↓sx5, ↓sx6, sx0, sx1, sx2, sx3, sx4, sx5, sx6, tf5, ev3_hold, sxo, sxc, sxp, sxq, sxr, sxs, sxl, sxm, Int.reduceBEq, Int.reduceBNe, Int.reduceLT, Int.reduceLE, Int.reduceEq, Int.reduceGT, Int.reduceGE, Int.reduceToNat, ↓reduceIte, List.reduceReplicate, Nat.reduceAdd, Nat.reduceSub, Nat.reduceMul, Nat.reduceLT, Nat.reduceLeDiff, Nat.reduceBEq, Nat.reduceEqDiff, pl5_lk, pl5_28]
  refine at_f (hrT _) spc_len hgt (o := 1) (x := I (c.thi (T + i))) rfl fun ad7 => ?_
  simp (config := { maxSteps := 4000000 }) only [↓sx0, ↓sx1, ↓sx2, ↓sx3, ↓sx4, ↓sx5, ↓sx6, sx0, sx1, sx2, sx3, sx4, sx5, sx6, tf5, ev3_hold, sxo, sxc, sxp, sxq, sxr, sxs, sxl, sxm, Int.reduceBEq, Int.reduceBNe, Int.reduceLT, Int.reduceLE, Int.reduceEq, Int.reduceGT, Int.reduceGE, Int.reduceToNat, ↓reduceIte, List.reduceReplicate, Nat.reduceAdd, Nat.reduceSub, Nat.reduceMul, Nat.reduceLT, Nat.reduceLeDiff, Nat.reduceBEq, Nat.reduceEqDiff, z3, pl5_lk, pl5_28]
  refine ⟨i1h, i2h, adh, hadh, ?_⟩
  refine at_1 hrx i1_len hxn rfl fun ad8 => ?_
  simp (config := { maxSteps := 4000000 }) only [↓sx0, ↓sx1, ↓sx2, ↓sx3, ↓sx4, ↓sx5, ↓sx6, sx0, sx1, sx2, sx3, sx4, sx5, sx6, tf5, ev3_hold, sxo, sxc, sxp, sxq, sxr, sxs, sxl, sxm, Int.reduceBEq, Int.reduceBNe, Int.reduceLT, Int.reduceLE, Int.reduceEq, Int.reduceGT, Int.reduceGE, Int.reduceToNat, ↓reduceIte, List.reduceReplicate, Nat.reduceAdd, Nat.reduceSub, Nat.reduceMul, Nat.reduceLT, Nat.reduceLeDiff, Nat.reduceBEq, Nat.reduceEqDiff, pl5_lk, pl5_28]
  refine ld_mono hld ?_
  rintro s rfl
  simp (config := { maxSteps := 4000000 }) only [↓sx0, ↓sx1, ↓sx2, ↓sx3, ↓sx4, ↓sx5, ↓sx6, sx0, sx1, sx2, sx3, sx4, sx5, sx6, tf5, ev3_hold, sxo, sxc, sxp, sxq, sxr, sxs, sxl, sxm, Int.reduceBEq, Int.reduceBNe, Int.reduceLT, Int.reduceLE, Int.reduceEq, Int.reduceGT, Int.reduceGE, Int.reduceToNat, ↓reduceIte, List.reduceReplicate, Nat.reduceAdd, Nat.reduceSub, Nat.reduceMul, Nat.reduceLT, Nat.reduceLeDiff, Nat.reduceBEq, Nat.reduceEqDiff, hov1, z5, k2, pl5_lk, pl5_28]
  exact ⟨i + 1, _, rfl, HImp.refl _ _, ⟨by omega, rfl⟩, by omega⟩

end Go.Proofs.YtcnlbnccbnapbaaDoor
