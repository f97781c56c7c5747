/- A part of a proof: the symbolic walk and what it shows of single functions. -/
import Derived.Test.YtaloedccoadedaaDoorSwE
import Derived.Test.YtaloedccoadedaaDoorF6
import Derived.Test.YtaloedccoadedaaDoorF8
set_option linter.all false
namespace Go.Proofs.YtaloedccoadedaaDoor
open Go.RowKit Go.SX
set_option maxRecDepth 20000
set_option maxHeartbeats 0
set_option linter.unusedSimpArgs false
set_option linter.unusedVariables false
theorem Dis.prc_all (d : Dis) : d.prc (fun _ => true) (fun _ => true) = pAll := by
  funext i
  rfl
theorem rchk3_fn (w : World) (hw : Ways w) (v : Value) (d : Dis) (hd : DsOk w v d) (hsm : d.small) (t k : Int) : SX.Fn Tryd.prog 58 [v, I t, I k] w (fun _ => False) fun q N => q = I (d.E2 t k) := by
  have hck := fun (H : List HO) w' (hp : Hp ⟨w, fun _ => False⟩ H w') => rcheck3_fn w' (hw.hp hp) v d (hd.hp hp) hsm
  obtain ⟨sD, sT, sS, sR, rfl, hc, hsR⟩ := hd
  have hD := detR_ok (X := fun _ => False) hw hc (fun _ _ => id)
  obtain ⟨_, _, _, hh, hsD, hsT, hsS⟩ := hc
  cases hh
  obtain ⟨aT, nT, cT, rfl⟩ := hsT.shape
  have hnT := hsT.le spc_len (by omega)
  subst hnT
  have htl : d.c.tide.length ≤ 100 := hsm.1.2.1
  have e1 : wr ((d.c.tide.length : Int) - 1) = (d.c.tide.length : Int) - 1 := wrap_id (by omega)
  have hU : (∀ n, detR (.agg #[I d.c.wide, I d.c.high, sD, .slice aT d.c.tide.length cT, sS]) d.c 36 [.agg #[I d.c.wide, I d.c.high, sD, .slice aT d.c.tide.length cT, sS], I n] = some (.bool (inB n 0 (wr ((d.c.tide.length : Int) - 1))))) ∧ (∀ n, detR (.agg #[I d.c.wide, I d.c.high, sD, .slice aT d.c.tide.length cT, sS]) d.c 40 [.agg #[I d.c.wide, I d.c.high, sD, .slice aT d.c.tide.length cT, sS], I n] = some (.bool (isCellB d.c.wide d.c.high n))) := ⟨fun _ => rfl, fun _ => rfl⟩
  have dn : (∀ xs, detR (.agg #[I d.c.wide, I d.c.high, sD, .slice aT d.c.tide.length cT, sS]) d.c 14 xs = none) := fun _ => rfl
  unfold Dis.E2
  refine walk [] [] hD Tryd.func58 rfl Tryd.ntmps58 res58 (by kernel_rfl) no_facts ?_
  simp (config := { maxSteps := 4000000 }) only [↓sx0, ↓sx1, ↓sx2, ↓sx3, ↓sx4, ↓sx5, ↓sx6, sx0, sx1, sx2, sx3, sx4, sx5, sx6, tf58, ev3_hold, sxo, sxc, sxp, sxq, sxr, sxs, sxl, sxm, Int.reduceBEq, Int.reduceBNe, Int.reduceLT, Int.reduceLE, Int.reduceEq, Int.reduceGT, Int.reduceGE, Int.reduceToNat, ↓reduceIte, List.reduceReplicate, Nat.reduceAdd, Nat.reduceSub, Nat.reduceMul, Nat.reduceLT, Nat.reduceLeDiff, Nat.reduceBEq, Nat.reduceEqDiff, dn]
  refine CallOb.pureH (fun w' hp => hck _ w' hp) ?_
  rintro q N rfl
  by_cases hE : d.E = 0
  case neg =>
    have p1 : (d.E = 0) = False := eq_false hE
    rw [if_neg hE]
    refine ⟨?_⟩
    simp (config := { maxSteps := 4000000 }) only [↓sx0, ↓sx1, ↓sx2, ↓sx3, ↓sx4, ↓sx5, ↓sx6, sx0, sx1, sx2, sx3, sx4, sx5, sx6, tf58, ev3_hold, sxo, sxc, sxp, sxq, sxr, sxs, sxl, sxm, Int.reduceBEq, Int.reduceBNe, Int.reduceLT, Int.reduceLE, Int.reduceEq, Int.reduceGT, Int.reduceGE, Int.reduceToNat, ↓reduceIte, List.reduceReplicate, Nat.reduceAdd, Nat.reduceSub, Nat.reduceMul, Nat.reduceLT, Nat.reduceLeDiff, Nat.reduceBEq, Nat.reduceEqDiff, p1]
  obtain ⟨hok, _⟩ := Dis.E_zero hE
  have hcell : isCellB d.c.wide d.c.high k = inB k 0 ((d.c.depth.length : Int) - 1) := by rw [isCell_iff hok]; unfold notCell; rw [Bool.not_not]
  have p1 : (d.E = 0) = True := eq_true hE
  rw [if_pos hE]
  cases h1 : inB t 0 ((d.c.tide.length : Int) - 1) with
  | false =>
    refine ⟨?_⟩
    simp (config := { maxSteps := 4000000 }) only [↓sx0, ↓sx1, ↓sx2, ↓sx3, ↓sx4, ↓sx5, ↓sx6, sx0, sx1, sx2, sx3, sx4, sx5, sx6, tf58, ev3_hold, sxo, sxc, sxp, sxq, sxr, sxs, sxl, sxm, Int.reduceBEq, Int.reduceBNe, Int.reduceLT, Int.reduceLE, Int.reduceEq, Int.reduceGT, Int.reduceGE, Int.reduceToNat, ↓reduceIte, List.reduceReplicate, Nat.reduceAdd, Nat.reduceSub, Nat.reduceMul, Nat.reduceLT, Nat.reduceLeDiff, Nat.reduceBEq, Nat.reduceEqDiff, p1, hU, e1, h1]
  | true =>
  cases h2 : inB k 0 ((d.c.depth.length : Int) - 1) with
  | false =>
    refine ⟨?_⟩
    simp (config := { maxSteps := 4000000 }) only [↓sx0, ↓sx1, ↓sx2, ↓sx3, ↓sx4, ↓sx5, ↓sx6, sx0, sx1, sx2, sx3, sx4, sx5, sx6, tf58, ev3_hold, sxo, sxc, sxp, sxq, sxr, sxs, sxl, sxm, Int.reduceBEq, Int.reduceBNe, Int.reduceLT, Int.reduceLE, Int.reduceEq, Int.reduceGT, Int.reduceGE, Int.reduceToNat, ↓reduceIte, List.reduceReplicate, Nat.reduceAdd, Nat.reduceSub, Nat.reduceMul, Nat.reduceLT, Nat.reduceLeDiff, Nat.reduceBEq, Nat.reduceEqDiff, p1, hU, e1, h1, hcell, h2]
  | true =>
    refine ⟨?_⟩
    simp (config := { maxSteps := 4000000 }) only [↓sx0, ↓sx1, ↓sx2, ↓sx3, ↓sx4, ↓sx5, ↓sx6, sx0, sx1, sx2, sx3, sx4, sx5, sx6, tf58, ev3_hold, sxo, sxc, sxp, sxq, sxr, sxs, sxl, sxm, Int.reduceBEq, Int.reduceBNe, Int.reduceLT, Int.reduceLE, Int.reduceEq, Int.reduceGT, Int.reduceGE, Int.reduceToNat, ↓reduceIte, List.reduceReplicate, Nat.reduceAdd, Nat.reduceSub, Nat.reduceMul, Nat.reduceLT, Nat.reduceLeDiff, Nat.reduceBEq, Nat.reduceEqDiff, p1, hU, e1, h1, hcell, h2]
theorem rwhere_fn (w : World) (hw : Ways w) (v : Value) (d : Dis) (hd : DsOk w v d) (hsm : d.small) (t : Int) : SX.Fn Tryd.prog 30 [v, I t] w (fun _ => False) (WhereP d t) := by
  have hd0 := hd
  have hck := fun (H : List HO) w' (hp : Hp ⟨w, fun _ => False⟩ H w') => rchk3_fn w' (hw.hp hp) v d (hd0.hp hp) hsm t 0
  have hev := fun (hm : d.rs.length ≤ 1000) (H : List HO) w' (hp : Hp ⟨w, fun _ => False⟩ H w') => every_fn w' v d (hd0.hp hp) hm true
  have hthr := fun (hE : d.E = 0) (vm vc : Value) (H : List HO) w' (hp : Hp ⟨w, fun _ => False⟩ H w') (hm : LLOk i1 1 w' vm (apL d.c)) (hc : Sl w' vc 1 (cat b1 (rowF d.rs.length fun _ => true))) => rthrough_fn w' (hw.hp hp) v vm vc vc d (hd0.hp hp) hE hm _ _ hc hc
  have hW2 : ∀ (H : List HO) (w' : World), Hp ⟨w, fun _ => False⟩ H w' → Ways w' := fun H w' hp => hw.hp hp
  obtain ⟨sD, sT, sS, sR, rfl, hc, hsR⟩ := hd
  obtain ⟨_, _, _, hh, hsD, hsT, hsS⟩ := hc
  cases hh
  have dn : ∀ (g : Nat) (xs : List Value), det0 g xs = none := fun _ _ => rfl
  unfold WhereP
  refine walk [] [(5, (ones [1, 4, 5, 7] (.ld 0 (ones [2, 3, 6, 8, 9, 10, 11] .fin))))] (det0_ok _ _) Tryd.func30 rfl Tryd.ntmps30 res30 (by kernel_rfl) no_facts ?_
  simp (config := { maxSteps := 4000000 }) only [↓sx0, ↓sx1, ↓sx2, ↓sx3, ↓sx4, ↓sx5, ↓sx6, sx0, sx1, sx2, sx3, sx4, sx5, sx6, tf30, ev3_hold, sxo, sxc, sxp, sxq, sxr, sxs, sxl, sxm, Int.reduceBEq, Int.reduceBNe, Int.reduceLT, Int.reduceLE, Int.reduceEq, Int.reduceGT, Int.reduceGE, Int.reduceToNat, ↓reduceIte, List.reduceReplicate, Nat.reduceAdd, Nat.reduceSub, Nat.reduceMul, Nat.reduceLT, Nat.reduceLeDiff, Nat.reduceBEq, Nat.reduceEqDiff, dn]
  refine CallOb.pureH (fun w' hp => hck _ w' hp) ?_
  rintro q N rfl
  by_cases hE : d.E2 t 0 = 0
  case neg =>
    have p1 : (d.E2 t 0 = 0) = False := eq_false hE
    rw [if_neg hE, if_neg hE]
    refine ⟨?_⟩
    simp (config := { maxSteps := 4000000 }) only [↓sx0, ↓sx1, ↓sx2, ↓sx3, ↓sx4, ↓sx5, ↓sx6, sx0, sx1, sx2, sx3, sx4, sx5, sx6, tf30, ev3_hold, sxo, sxc, sxp, sxq, sxr, sxs, sxl, sxm, Int.reduceBEq, Int.reduceBNe, Int.reduceLT, Int.reduceLE, Int.reduceEq, Int.reduceGT, Int.reduceGE, Int.reduceToNat, ↓reduceIte, List.reduceReplicate, Nat.reduceAdd, Nat.reduceSub, Nat.reduceMul, Nat.reduceLT, Nat.reduceLeDiff, Nat.reduceBEq, Nat.reduceEqDiff, p1]
    first | exact ⟨_, rfl, Got.nil _⟩ | exact Got.nil _
  have p1 : (d.E2 t 0 = 0) = True := eq_true hE
  obtain ⟨hE0, ht, _⟩ := Dis.E2_zero hE
  rw [if_pos hE, if_pos hE]
  obtain ⟨hok1, _, _, hm12, _⟩ := Dis.E_zero hE0
  have h144 : d.c.depth.length ≤ 200 := hsm.1.1
  obtain ⟨T0, rfl⟩ : ∃ T0 : Nat, t = T0 := ⟨t.toNat, by omega⟩
  have hT0 : T0 < d.c.tide.length := by omega
  have hmap := fun (H : List HO) w' (hp : Hp ⟨w, fun _ => False⟩ H w') => map_fn w' (hw.hp hp) sD sT sS d.c hok1
  have hthr := hthr hE0
  simp only [Dis.prc_all] at hthr
  unfold Dis.whrL
  rw [Int.toNat_natCast]
  have hgn : (d.crs pAll).n = d.c.depth.length := rfl
  have hgT : (d.crs pAll).T = d.c.tide.length := rfl
  unfold ThrP at hthr
  simp only [hgn, hgT] at hthr
  obtain ⟨TH, hTH⟩ : ∃ TH, (d.crs pAll).thr = TH := ⟨_, rfl⟩
  simp only [hTH] at hthr ⊢
  refine ⟨?_⟩
  simp (config := { maxSteps := 4000000 }) only [↓sx0, ↓sx1, ↓sx2, ↓sx3, ↓sx4, ↓sx5, ↓sx6, sx0, sx1, sx2, sx3, sx4, sx5, sx6, tf30, ev3_hold, sxo, sxc, sxp, sxq, sxr, sxs, sxl, sxm, Int.reduceBEq, Int.reduceBNe, Int.reduceLT, Int.reduceLE, Int.reduceEq, Int.reduceGT, Int.reduceGE, Int.reduceToNat, ↓reduceIte, List.reduceReplicate, Nat.reduceAdd, Nat.reduceSub, Nat.reduceMul, Nat.reduceLT, Nat.reduceLeDiff, Nat.reduceBEq, Nat.reduceEqDiff, p1, dn]
  refine CallOb.pureH (fun w' hp => hev (by omega) _ w' hp) ?_
  intro q N1 hG1
  obtain ⟨a1, c1, rfl⟩ := hG1.shape
  refine ⟨?_⟩
  simp (config := { maxSteps := 4000000 }) only [↓sx0, ↓sx1, ↓sx2, ↓sx3, ↓sx4, ↓sx5, ↓sx6, sx0, sx1, sx2, sx3, sx4, sx5, sx6, tf30, ev3_hold, sxo, sxc, sxp, sxq, sxr, sxs, sxl, sxm, Int.reduceBEq, Int.reduceBNe, Int.reduceLT, Int.reduceLE, Int.reduceEq, Int.reduceGT, Int.reduceGE, Int.reduceToNat, ↓reduceIte, List.reduceReplicate, Nat.reduceAdd, Nat.reduceSub, Nat.reduceMul, Nat.reduceLT, Nat.reduceLeDiff, Nat.reduceBEq, Nat.reduceEqDiff, dn]
  refine CallOb.pureH (fun w' hp => hmap _ w' hp) ?_
  intro q N2 hMP
  refine ⟨?_⟩
  simp (config := { maxSteps := 4000000 }) only [↓sx0, ↓sx1, ↓sx2, ↓sx3, ↓sx4, ↓sx5, ↓sx6, sx0, sx1, sx2, sx3, sx4, sx5, sx6, tf30, ev3_hold, sxo, sxc, sxp, sxq, sxr, sxs, sxl, sxm, Int.reduceBEq, Int.reduceBNe, Int.reduceLT, Int.reduceLE, Int.reduceEq, Int.reduceGT, Int.reduceGE, Int.reduceToNat, ↓reduceIte, List.reduceReplicate, Nat.reduceAdd, Nat.reduceSub, Nat.reduceMul, Nat.reduceLT, Nat.reduceLeDiff, Nat.reduceBEq, Nat.reduceEqDiff, dn]
  refine CallOb.pureH (fun w' hp => hthr _ _ _ w' hp (hMP.lln.ok (by simp +contextual) hp) (hG1.hp (by simp +contextual) hp)) ?_
  rintro q N3 ⟨al, cl, qs, rfl, hN3, hH3⟩
  obtain ⟨aw, cw, hqt, hrt⟩ := hH3.2 T0 hT0
  refine ⟨?_⟩
  simp (config := { maxSteps := 4000000 }) only [↓sx0, ↓sx1, ↓sx2, ↓sx3, ↓sx4, ↓sx5, ↓sx6, sx0, sx1, sx2, sx3, sx4, sx5, sx6, tf30, ev3_hold, sxo, sxc, sxp, sxq, sxr, sxs, sxl, sxm, Int.reduceBEq, Int.reduceBNe, Int.reduceLT, Int.reduceLE, Int.reduceEq, Int.reduceGT, Int.reduceGE, Int.reduceToNat, ↓reduceIte, List.reduceReplicate, Nat.reduceAdd, Nat.reduceSub, Nat.reduceMul, Nat.reduceLT, Nat.reduceLeDiff, Nat.reduceBEq, Nat.reduceEqDiff, dn]
  refine at_1 (row_rdv (w0 := ⟨w, fun _ => False⟩) (List.mem_append_left _ hN3) ⟨_, _, _, rfl, by rw [cat_len lpc_len, hH3.1], fun h => by cases h⟩) lpc_len hqt (show lpc _ = [Value.slice (some aw) d.c.depth.length cw] from rfl) fun ad2 => ?_
  simp (config := { maxSteps := 4000000 }) only [↓sx0, ↓sx1, ↓sx2, ↓sx3, ↓sx4, ↓sx5, ↓sx6, sx0, sx1, sx2, sx3, sx4, sx5, sx6, tf30, ev3_hold, sxo, sxc, sxp, sxq, sxr, sxs, sxl, sxm, Int.reduceBEq, Int.reduceBNe, Int.reduceLT, Int.reduceLE, Int.reduceEq, Int.reduceGT, Int.reduceGE, Int.reduceToNat, ↓reduceIte, List.reduceReplicate, Nat.reduceAdd, Nat.reduceSub, Nat.reduceMul, Nat.reduceLT, Nat.reduceLeDiff, Nat.reduceBEq, Nat.reduceEqDiff, dn]
  refine CallOb.pureH (fun w' hp => among_fn w' _ _ (by omega) (TH T0) 0 (row_hp (E := 3) (List.mem_append_left _ hrt) hp)) ?_
  rintro q N4 hG
  obtain ⟨L, hL⟩ : ∃ L, chpL d.c.depth.length (TH T0) 0 = L := ⟨_, rfl⟩
  rw [hL] at hG ⊢
  obtain ⟨ax, cx, rfl⟩ := hG.shape
  have hzl := zs_len L
  by_cases hn : L = []
  · subst hn
    have p0 : (((zs ([] : List Nat)).length : Int) = 0) = True := eq_true rfl
    refine ⟨?_⟩
    simp (config := { maxSteps := 4000000 }) only [↓sx0, ↓sx1, ↓sx2, ↓sx3, ↓sx4, ↓sx5, ↓sx6, sx0, sx1, sx2, sx3, sx4, sx5, sx6, tf30, ev3_hold, sxo, sxc, sxp, sxq, sxr, sxs, sxl, sxm, Int.reduceBEq, Int.reduceBNe, Int.reduceLT, Int.reduceLE, Int.reduceEq, Int.reduceGT, Int.reduceGE, Int.reduceToNat, ↓reduceIte, List.reduceReplicate, Nat.reduceAdd, Nat.reduceSub, Nat.reduceMul, Nat.reduceLT, Nat.reduceLeDiff, Nat.reduceBEq, Nat.reduceEqDiff, p0]
    first | exact ⟨_, ⟨rfl, rfl⟩, Got.nil _⟩ | exact Got.nil _ | exact ⟨_, rfl, Got.nil _⟩
  · have p1 : (((zs L).length : Int) = 0) = False := eq_false fun h => hn (List.eq_nil_of_length_eq_zero (by omega))
    rw [if_neg hn]
    refine ⟨?_⟩
    simp (config := { maxSteps := 4000000 }) only [↓sx0, ↓sx1, ↓sx2, ↓sx3, ↓sx4, ↓sx5, ↓sx6, sx0, sx1, sx2, sx3, sx4, sx5, sx6, tf30, ev3_hold, sxo, sxc, sxp, sxq, sxr, sxs, sxl, sxm, Int.reduceBEq, Int.reduceBNe, Int.reduceLT, Int.reduceLE, Int.reduceEq, Int.reduceGT, Int.reduceGE, Int.reduceToNat, ↓reduceIte, List.reduceReplicate, Nat.reduceAdd, Nat.reduceSub, Nat.reduceMul, Nat.reduceLT, Nat.reduceLeDiff, Nat.reduceBEq, Nat.reduceEqDiff, p1]
    first | exact hG.mono (by simp +contextual) | exact ⟨_, rfl, hG.mono (by simp +contextual)⟩
theorem rcourse_fn (w : World) (hw : Ways w) (v : Value) (d : Dis) (hd : DsOk w v d) (hsm : d.small) : SX.Fn Tryd.prog 31 [v] w (fun _ => False) (CourseP d) := by
  have hd0 := hd
  have hck := fun (H : List HO) w' (hp : Hp ⟨w, fun _ => False⟩ H w') => rcheck3_fn w' (hw.hp hp) v d (hd0.hp hp) hsm
  have hev := fun (hm : d.rs.length ≤ 1000) (H : List HO) w' (hp : Hp ⟨w, fun _ => False⟩ H w') => every_fn w' v d (hd0.hp hp) hm true
  have hfi := fun (hE : d.E = 0) (vc : Value) (H : List HO) w' (hp : Hp ⟨w, fun _ => False⟩ H w') (hc : Sl w' vc 1 (cat b1 (rowF d.rs.length fun _ => true))) => rfirst_fn w' (hw.hp hp) v vc vc d (hd0.hp hp) hE _ _ hc hc
  simp only [Dis.prc_all] at hfi
  obtain ⟨sD, sT, sS, sR, rfl, hc, hsR⟩ := hd
  have dn : ∀ (g : Nat) (xs : List Value), det0 g xs = none := fun _ _ => rfl
  unfold CourseP
  refine walk [] [] (det0_ok _ _) Tryd.func31 rfl Tryd.ntmps31 res31 (by kernel_rfl) no_facts ?_
  simp (config := { maxSteps := 4000000 }) only [↓sx0, ↓sx1, ↓sx2, ↓sx3, ↓sx4, ↓sx5, ↓sx6, sx0, sx1, sx2, sx3, sx4, sx5, sx6, tf31, ev3_hold, sxo, sxc, sxp, sxq, sxr, sxs, sxl, sxm, Int.reduceBEq, Int.reduceBNe, Int.reduceLT, Int.reduceLE, Int.reduceEq, Int.reduceGT, Int.reduceGE, Int.reduceToNat, ↓reduceIte, List.reduceReplicate, Nat.reduceAdd, Nat.reduceSub, Nat.reduceMul, Nat.reduceLT, Nat.reduceLeDiff, Nat.reduceBEq, Nat.reduceEqDiff, dn]
  refine CallOb.pureH (fun w' hp => hck _ w' hp) ?_
  rintro q N rfl
  by_cases hE : d.E = 0
  case neg =>
    have p1 : (d.E = 0) = False := eq_false hE
    rw [if_neg hE, if_neg (fun h => hE h.1)]
    refine ⟨?_⟩
    simp (config := { maxSteps := 4000000 }) only [↓sx0, ↓sx1, ↓sx2, ↓sx3, ↓sx4, ↓sx5, ↓sx6, sx0, sx1, sx2, sx3, sx4, sx5, sx6, tf31, ev3_hold, sxo, sxc, sxp, sxq, sxr, sxs, sxl, sxm, Int.reduceBEq, Int.reduceBNe, Int.reduceLT, Int.reduceLE, Int.reduceEq, Int.reduceGT, Int.reduceGE, Int.reduceToNat, ↓reduceIte, List.reduceReplicate, Nat.reduceAdd, Nat.reduceSub, Nat.reduceMul, Nat.reduceLT, Nat.reduceLeDiff, Nat.reduceBEq, Nat.reduceEqDiff, p1]
    first | exact ⟨_, rfl, Got.nil _⟩ | exact Got.nil _
  have p1 : (d.E = 0) = True := eq_true hE
  obtain ⟨hok1, _, _, hm12, _⟩ := Dis.E_zero hE
  rw [if_pos hE]
  have hfi := hfi hE
  have hlz := (least_zero hE pAll_ok).2
  obtain ⟨g, hg⟩ : ∃ g, d.crs pAll = g := ⟨_, rfl⟩
  simp only [hg] at hfi hlz ⊢
  refine ⟨?_⟩
  simp (config := { maxSteps := 4000000 }) only [↓sx0, ↓sx1, ↓sx2, ↓sx3, ↓sx4, ↓sx5, ↓sx6, sx0, sx1, sx2, sx3, sx4, sx5, sx6, tf31, ev3_hold, sxo, sxc, sxp, sxq, sxr, sxs, sxl, sxm, Int.reduceBEq, Int.reduceBNe, Int.reduceLT, Int.reduceLE, Int.reduceEq, Int.reduceGT, Int.reduceGE, Int.reduceToNat, ↓reduceIte, List.reduceReplicate, Nat.reduceAdd, Nat.reduceSub, Nat.reduceMul, Nat.reduceLT, Nat.reduceLeDiff, Nat.reduceBEq, Nat.reduceEqDiff, p1, dn]
  refine CallOb.pureH (fun w' hp => hev (by omega) _ w' hp) ?_
  intro q N1 hG1
  obtain ⟨a1, c1, rfl⟩ := hG1.shape
  refine ⟨?_⟩
  simp (config := { maxSteps := 4000000 }) only [↓sx0, ↓sx1, ↓sx2, ↓sx3, ↓sx4, ↓sx5, ↓sx6, sx0, sx1, sx2, sx3, sx4, sx5, sx6, tf31, ev3_hold, sxo, sxc, sxp, sxq, sxr, sxs, sxl, sxm, Int.reduceBEq, Int.reduceBNe, Int.reduceLT, Int.reduceLE, Int.reduceEq, Int.reduceGT, Int.reduceGE, Int.reduceToNat, ↓reduceIte, List.reduceReplicate, Nat.reduceAdd, Nat.reduceSub, Nat.reduceMul, Nat.reduceLT, Nat.reduceLeDiff, Nat.reduceBEq, Nat.reduceEqDiff, dn]
  refine CallOb.pureH (fun w' hp => hfi _ _ w' hp (hG1.hp (by simp +contextual) hp)) ?_
  rintro q N2 (⟨hl, x, rfl, hG⟩ | ⟨hl, rfl⟩)
  · have p2 : (g.least ≥ 1073741824) = False := eq_false (by unfold NV at hl; omega)
    rw [if_pos hl, if_pos ⟨hE, hl⟩]
    refine ⟨?_⟩
    simp (config := { maxSteps := 4000000 }) only [↓sx0, ↓sx1, ↓sx2, ↓sx3, ↓sx4, ↓sx5, ↓sx6, sx0, sx1, sx2, sx3, sx4, sx5, sx6, tf31, ev3_hold, sxo, sxc, sxp, sxq, sxr, sxs, sxl, sxm, Int.reduceBEq, Int.reduceBNe, Int.reduceLT, Int.reduceLE, Int.reduceEq, Int.reduceGT, Int.reduceGE, Int.reduceToNat, ↓reduceIte, List.reduceReplicate, Nat.reduceAdd, Nat.reduceSub, Nat.reduceMul, Nat.reduceLT, Nat.reduceLeDiff, Nat.reduceBEq, Nat.reduceEqDiff, p2]
    first | exact ⟨_, rfl, hG.mono (by simp +contextual)⟩ | exact hG.mono (by simp +contextual)
  · rw [if_neg hl, if_neg (fun h => hl h.2)]
    refine ⟨?_⟩
    simp (config := { maxSteps := 4000000 }) only [↓sx0, ↓sx1, ↓sx2, ↓sx3, ↓sx4, ↓sx5, ↓sx6, sx0, sx1, sx2, sx3, sx4, sx5, sx6, tf31, ev3_hold, sxo, sxc, sxp, sxq, sxr, sxs, sxl, sxm, Int.reduceBEq, Int.reduceBNe, Int.reduceLT, Int.reduceLE, Int.reduceEq, Int.reduceGT, Int.reduceGE, Int.reduceToNat, ↓reduceIte, List.reduceReplicate, Nat.reduceAdd, Nat.reduceSub, Nat.reduceMul, Nat.reduceLT, Nat.reduceLeDiff, Nat.reduceBEq, Nat.reduceEqDiff]
    first | exact ⟨_, rfl, Got.nil _⟩ | exact Got.nil _
end Go.Proofs.YtaloedccoadedaaDoor
