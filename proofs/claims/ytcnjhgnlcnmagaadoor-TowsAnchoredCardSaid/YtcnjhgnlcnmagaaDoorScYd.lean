/- A part of a proof: the symbolic walk and what it shows of single functions. -/
import Derived.Test.YtcnjhgnlcnmagaaDoorScYc
import Derived.Test.YtcnjhgnlcnmagaaDoorScXo
set_option linter.all false
namespace Go.Proofs.YtcnjhgnlcnmagaaDoor
open Go.RowKit Go.SX
set_option maxRecDepth 20000
set_option maxHeartbeats 8000000
set_option linter.unusedSimpArgs false
set_option linter.unusedVariables false

theorem apart_mem : ∀ {H : List HO}, H.Pairwise Apart → ∀ {x y : HO}, x ∈ H → y ∈ H → x ≠ y → Apart x y
  | [], _, _, _, hx, _, _ => by cases hx
  | z :: H, h, x, y, hx, hy, hne => by
    have hh := List.pairwise_cons.1 h
    rcases List.mem_cons.1 hx with ex | hx'
    · rcases List.mem_cons.1 hy with ey | hy'
      · exact absurd (ex.trans ey.symm) hne
      · exact ex ▸ hh.1 _ hy'
    · rcases List.mem_cons.1 hy with ey | hy'
      · exact ey ▸ (hh.1 _ hx').symm
      · exact apart_mem hh.2 hx' hy' hne

theorem himp_mem {w0 : Base} {H G : List HO} (hm : ∀ x ∈ G, x ∈ H) (hd : G.Pairwise (fun x y => x ≠ y)) : HImp w0 H G := fun w hp =>
  ⟨⟨hp.ext, fun h hh => hp.ok h (hm h hh), fun h hh => hp.old h (hm h hh), hd.imp_of_mem fun hx hy hne => apart_mem hp.nd (hm _ hx) (hm _ hy) hne⟩, fun _b ⟨h, hh, hb⟩ => ⟨h, hm h hh, hb⟩, fun _b ⟨h, hh, hb⟩ => ⟨h, hm h hh, hb⟩⟩

theorem veer_good (w : World) (hw : Ways w) (v : Value) (c : Cht) (hc : ChOk w v c) (hsm : c.small) (A : Anc) (g t : Int) (he : veerE c A g t = 0) :
    SX.Fn Tryd.prog 53 [v, anv A, I g, I t] w (fun _ => False) fun r N => LV r N (vlenL c A A.cell.toNat g t.toNat) 0 := by
  have hc0 := hc
  have hD := detV_ok (X := fun _ => False) hw hc (fun _ _ => id)
  have hck := (detV_check (v := v) hsm).1
  have hz := veerE_zero he
  obtain ⟨hok, hA, hg, ht⟩ := hz
  rw [(okB_iff c).2 hok, if_pos rfl] at hck
  have hAi := anB_iff hA
  obtain ⟨⟨K, hAK, hK⟩, hcb, hscp, hpit⟩ := hAi
  have kt := tick_of ht
  obtain ⟨T, hT, hTl⟩ := kt
  subst hT
  have hdm := hok.dims
  obtain ⟨eW, eH, hW, hH, hlen⟩ := hdm
  have h144 := Nat.mul_le_mul hW.2 hH.2
  have hd := dpt_bd hok hK hTl
  have hsc := scp_bd hok hA hK hTl
  have hrb := fun y (hy : y < c.depth.length) => rch_bd hok hA hK hy
  have hVl := vlenL_len c A K g T
  have hVg := fun x (hx : x < c.depth.length) => vlenL_get (A := A) (K := K) (g := g) (T := T) hx
  have hwv := waterV_ok hok hK hTl
  have hwt := fun (H : List HO) w' (hp : Hp ⟨w, fun _ => False⟩ H w') => water1_fn w' v c (hc0.hp hp) hsm K T
  rw [hwv] at hwt
  have hfl := fun (H : List HO) w' (hp : Hp ⟨w, fun _ => False⟩ H w') (y : Nat) (hy : y < c.depth.length) => (show SX.Fn Tryd.prog 34 [v, I g, I y, I T] w' (fun _ => False) fun r N => r = .tuple #[.bool (c.flt g T y), .bool (decide (c.over y T (c.thi T) ≥ g)), I 0] by
    have := floats1_fn w' v c (hc0.hp hp) hsm g y T
    rw [floatsV_ok hok hy hTl hg] at this
    exact this)
  have hap := fun (H : List HO) w' (hp : Hp ⟨w, fun _ => False⟩ H w') (y : Nat) (hy : y < c.depth.length) => apart_at w' (hw.hp hp) v c (hc0.hp hp) hsm hok K y hK hy
  have h1 : inB (K : Int) 0 ((c.depth.length : Int) - 1) = true := (inB_iff _ _ _).2 (by omega)
  have h2 : inB A.cable 0 20000 = true := (inB_iff _ _ _).2 hcb
  have h3 : inB A.scope 1 10 = true := (inB_iff _ _ _).2 hscp
  have h4 : inB A.pitch 1 2000 = true := (inB_iff _ _ _).2 hpit
  obtain ⟨sD, sT, sS, rfl, hsD, hsT, hsS⟩ := hc
  obtain ⟨aD, nD, cD, rfl⟩ := hsD.shape
  have hnD := hsD.le i1_len (by omega)
  subst hnD
  have e5 : IntKind.i64.wrap ((c.depth.length : Int) - 1) = (c.depth.length : Int) - 1 := wrap_id (by omega)
  have dn : (∀ xs, detV (.agg #[I c.wide, I c.high, .slice aD c.depth.length cD, sT, sS]) c 32 xs = none) ∧ (∀ xs, detV (.agg #[I c.wide, I c.high, .slice aD c.depth.length cD, sT, sS]) c 34 xs = none) ∧ (∀ xs, detV (.agg #[I c.wide, I c.high, .slice aD c.depth.length cD, sT, sS]) c 28 xs = none) ∧ (∀ xs, detV (.agg #[I c.wide, I c.high, .slice aD c.depth.length cD, sT, sS]) c 92 xs = none) := ⟨fun _ => rfl, fun _ => rfl, fun _ => rfl, fun _ => rfl⟩
  have hDe : ∃ D, dpt c K T = D := ⟨_, rfl⟩
  obtain ⟨D, hDe⟩ := hDe
  have hDm : max 0 (c.over K T (c.thi T)) = D := hDe
  rw [hAK, Int.toNat_natCast, Int.toNat_natCast]
  unfold anv
  rw [hAK]
  refine walk [17, 18] pl53 hD Tryd.func53 rfl Tryd.ntmps53 res53 (by kernel_rfl) no_facts ?_
  simp (config := { maxSteps := 4000000 }) only [↓sx0, ↓sx1, ↓sx2, ↓sx3, ↓sx4, ↓sx5, ↓sx6, sx0, sx1, sx2, sx3, sx4, sx5, sx6, tf53, ev3_hold, sxo, sxc, sxp, sxq, sxr, sxs, sxl, sxm, Int.reduceBEq, Int.reduceBNe, Int.reduceLT, Int.reduceLE, Int.reduceEq, Int.reduceGT, Int.reduceGE, Int.reduceToNat, ↓reduceIte, List.reduceReplicate, Nat.reduceAdd, Nat.reduceSub, Nat.reduceMul, Nat.reduceLT, Nat.reduceLeDiff, Nat.reduceBEq, Nat.reduceEqDiff, hck, detV_eq, e5, h1, h2, h3, h4, dn]
  refine CallOb.pureH (fun w' hp => hwt _ w' hp) ?_
  rintro r1 N1 rfl
  refine ⟨?_⟩
  simp (config := { maxSteps := 4000000 }) only [↓sx0, ↓sx1, ↓sx2, ↓sx3, ↓sx4, ↓sx5, ↓sx6, sx0, sx1, sx2, sx3, sx4, sx5, sx6, tf53, ev3_hold, sxo, sxc, sxp, sxq, sxr, sxs, sxl, sxm, Int.reduceBEq, Int.reduceBNe, Int.reduceLT, Int.reduceLE, Int.reduceEq, Int.reduceGT, Int.reduceGE, Int.reduceToNat, ↓reduceIte, List.reduceReplicate, Nat.reduceAdd, Nat.reduceSub, Nat.reduceMul, Nat.reduceLT, Nat.reduceLeDiff, Nat.reduceBEq, Nat.reduceEqDiff, dn, vS, spc]
  refine CallOb.pureH (fun w' hp => hfl _ w' hp K hK) ?_
  rintro r2 N2 rfl
  refine ⟨?_⟩
  simp (config := { maxSteps := 4000000 }) only [↓sx0, ↓sx1, ↓sx2, ↓sx3, ↓sx4, ↓sx5, ↓sx6, sx0, sx1, sx2, sx3, sx4, sx5, sx6, tf53, ev3_hold, sxo, sxc, sxp, sxq, sxr, sxs, sxl, sxm, Int.reduceBEq, Int.reduceBNe, Int.reduceLT, Int.reduceLE, Int.reduceEq, Int.reduceGT, Int.reduceGE, Int.reduceToNat, ↓reduceIte, List.reduceReplicate, Nat.reduceAdd, Nat.reduceSub, Nat.reduceMul, Nat.reduceLT, Nat.reduceLeDiff, Nat.reduceBEq, Nat.reduceEqDiff, hDm, pl53_lk, pl53_11]
  refine ⟨⟨by omega, by omega, by omega⟩, ⟨by omega, by omega, by omega⟩, fun b18 => ?_⟩
  refine ⟨by omega, by omega, by omega, fun rr b17 => ?_⟩
  refine wr_cell (A := []) rfl (by simp) ?_
  simp (config := { maxSteps := 4000000 }) only [↓sx0, ↓sx1, ↓sx2, ↓sx3, ↓sx4, ↓sx5, ↓sx6, sx0, sx1, sx2, sx3, sx4, sx5, sx6, tf53, ev3_hold, sxo, sxc, sxp, sxq, sxr, sxs, sxl, sxm, Int.reduceBEq, Int.reduceBNe, Int.reduceLT, Int.reduceLE, Int.reduceEq, Int.reduceGT, Int.reduceGE, Int.reduceToNat, ↓reduceIte, List.reduceReplicate, Nat.reduceAdd, Nat.reduceSub, Nat.reduceMul, Nat.reduceLT, Nat.reduceLeDiff, Nat.reduceBEq, Nat.reduceEqDiff]
  refine ⟨by omega, by omega, by omega, fun rf => ?_⟩
  refine wr_cell (A := [_, _, _]) rfl (by simp) ?_
  simp (config := { maxSteps := 4000000 }) only [↓sx0, ↓sx1, ↓sx2, ↓sx3, ↓sx4, ↓sx5, ↓sx6, sx0, sx1, sx2, sx3, sx4, sx5, sx6, tf53, ev3_hold, sxo, sxc, sxp, sxq, sxr, sxs, sxl, sxm, Int.reduceBEq, Int.reduceBNe, Int.reduceLT, Int.reduceLE, Int.reduceEq, Int.reduceGT, Int.reduceGE, Int.reduceToNat, ↓reduceIte, List.reduceReplicate, Nat.reduceAdd, Nat.reduceSub, Nat.reduceMul, Nat.reduceLT, Nat.reduceLeDiff, Nat.reduceBEq, Nat.reduceEqDiff]
  rw [show zerosL c.depth.length [Value.int .i64 0] = ints (List.replicate c.depth.length 0) from zeros_cat i1 0 _, show zerosL c.depth.length [Value.bool false] = bools (List.replicate c.depth.length false) from zeros_cat b1 false _]
  have hZl : (List.replicate c.depth.length (0 : Int)).length = c.depth.length := by simp
  have hFl : (List.replicate c.depth.length false).length = c.depth.length := by simp
  generalize hZe : List.replicate c.depth.length (0 : Int) = Z at hZl
  generalize hFe : List.replicate c.depth.length false = F at hFl
  obtain ⟨RL, FL, hRLl, hFLl, hRLg, hFLg⟩ : ∃ (RL : List Int) (FL : List Bool), RL.length = c.depth.length ∧ FL.length = c.depth.length ∧ (∀ y, y < c.depth.length → RL.getD y 0 = rch c A K T y) ∧ ∀ y, y < c.depth.length → FL.getD y false = c.flt g T y := by
    refine ⟨(List.range c.depth.length).map (rch c A K T), (List.range c.depth.length).map (c.flt g T), by simp, by simp, fun y hy => ?_, fun y hy => ?_⟩
    · rw [List.getD_eq_getElem?_getD, List.getElem?_map, List.getElem?_range hy]
      rfl
    · rw [List.getD_eq_getElem?_getD, List.getElem?_map, List.getElem?_range hy]
      rfl
  generalize hRR : (fun (b : Nat) (l : List Int) => HO.row (.slice (some ⟨b, 0, none⟩) c.depth.length c.depth.length) 3 1 (ints l)) = RR
  have hRe : ∀ b l, HO.row (.slice (some ⟨b, 0, none⟩) c.depth.length c.depth.length) 3 1 (ints l) = RR b l := fun b l => by rw [← hRR]
  generalize hRB : (fun (l : List Bool) => HO.row (.slice (some ⟨rf, 0, none⟩) c.depth.length c.depth.length) 4 1 (bools l)) = RB
  have hBe : ∀ l, HO.row (.slice (some ⟨rf, 0, none⟩) c.depth.length c.depth.length) 4 1 (bools l) = RB l := fun l => by rw [← hRB]
  generalize hC17 : HO.cells b17 22 [.slice (some ⟨rr, 0, none⟩) c.depth.length c.depth.length] = C17
  generalize hC18 : HO.cells b18 104 [.slice (some ⟨rf, 0, none⟩) c.depth.length c.depth.length] = C18
  rw [hRe, hBe]
  have ld17 : ∀ {G : List HO} {K : SV → Prop}, C17 ∈ G → K (.v (.slice (some ⟨rr, 0, none⟩) c.depth.length c.depth.length)) → hold (LdOb ⟨w, fun _ => False⟩ G ⟨b17, 0, none⟩ none K) ⟨0⟩ := fun hm hK => ld_cell (hC17 ▸ hm) rfl hK
  have ld18 : ∀ {G : List HO} {K : SV → Prop}, C18 ∈ G → K (.v (.slice (some ⟨rf, 0, none⟩) c.depth.length c.depth.length)) → hold (LdOb ⟨w, fun _ => False⟩ G ⟨b18, 0, none⟩ none K) ⟨0⟩ := fun hm hK => ld_cell (hC18 ▸ hm) rfl hK
  refine ld17 (by simp) ?_
  simp (config := { maxSteps := 4000000 }) only [↓sx0, ↓sx1, ↓sx2, ↓sx3, ↓sx4, ↓sx5, ↓sx6, sx0, sx1, sx2, sx3, sx4, sx5, sx6, tf53, ev3_hold, sxo, sxc, sxp, sxq, sxr, sxs, sxl, sxm, Int.reduceBEq, Int.reduceBNe, Int.reduceLT, Int.reduceLE, Int.reduceEq, Int.reduceGT, Int.reduceGE, Int.reduceToNat, ↓reduceIte, List.reduceReplicate, Nat.reduceAdd, Nat.reduceSub, Nat.reduceMul, Nat.reduceLT, Nat.reduceLeDiff, Nat.reduceBEq, Nat.reduceEqDiff]
  refine loop_constH [RB (mixL FL F 0), C17, RR rr (mixL RL Z 0), C18] (by rw [mixL_zero, mixL_zero]; exact HImp.sub (.cons_cons _ (.cons_cons _ (.cons_cons _ (.cons_cons _ (List.nil_sublist _)))))) [(19, 21), (95, 127)] (fun i : Nat => [(95, I i)])
    (fun i H1 => i ≤ c.depth.length ∧ H1 = [RB (mixL FL F i), C17, RR rr (mixL RL Z i), C18]) (fun i => c.depth.length - i) 0 ?_ ⟨Nat.zero_le _, rfl⟩ ?_
  · simp (config := { maxSteps := 4000000 }) only [↓sx0, ↓sx1, ↓sx2, ↓sx3, ↓sx4, ↓sx5, ↓sx6, sx0, sx1, sx2, sx3, sx4, sx5, sx6, tf53, ev3_hold, sxo, sxc, sxp, sxq, sxr, sxs, sxl, sxm, Int.reduceBEq, Int.reduceBNe, Int.reduceLT, Int.reduceLE, Int.reduceEq, Int.reduceGT, Int.reduceGE, Int.reduceToNat, ↓reduceIte, List.reduceReplicate, Nat.reduceAdd, Nat.reduceSub, Nat.reduceMul, Nat.reduceLT, Nat.reduceLeDiff, Nat.reduceBEq, Nat.reduceEqDiff]
    simp
  rintro i H1 g1 ⟨hi, rfl⟩
  by_cases hin : i = c.depth.length
  case neg =>
    as_aux_lemma =>
    have e7 : ((i : Int) < (c.depth.length : Int)) = True := eq_true (by omega)
    have e8 : IntKind.i64.wrap ((i : Int) + 1) = ((i + 1 : Nat) : Int) := (wrap_id (by omega)).trans (by omega)
    have hpi := hrb i (by omega)
    have f1 : IntKind.i64.wrap (A.pitch * ((dst c.W c.H K i : Nat) : Int)) = A.pitch * ((dst c.W c.H K i : Nat) : Int) := wrap_id (by omega)
    have f2 : IntKind.i64.wrap (A.pitch * ((dst c.W c.H K i : Nat) : Int) + D) = rch c A K T i := (wrap_id (by omega)).trans (by unfold rch; rw [hDe])
    have hLZ : RL.length = Z.length := by omega
    have hLF : FL.length = F.length := by omega
    have hml := mixL_len hLZ (i := i) (by omega)
    have hmf := mixL_len hLF (i := i) (by omega)
    have hst := mixL_set hLZ (i := i) (by omega) 0
    have hsf := mixL_set hLF (i := i) (by omega) false
    rw [hRLg i (by omega)] at hst
    rw [hFLg i (by omega)] at hsf
    refine ⟨?_⟩
    simp (config := { maxSteps := 4000000 }) only [↓sx0, ↓sx1, ↓sx2, ↓sx3, ↓sx4, ↓sx5, ↓sx6, sx0, sx1, sx2, sx3, sx4, sx5, sx6, tf53, ev3_hold, sxo, sxc, sxp, sxq, sxr, sxs, sxl, sxm, Int.reduceBEq, Int.reduceBNe, Int.reduceLT, Int.reduceLE, Int.reduceEq, Int.reduceGT, Int.reduceGE, Int.reduceToNat, ↓reduceIte, List.reduceReplicate, Nat.reduceAdd, Nat.reduceSub, Nat.reduceMul, Nat.reduceLT, Nat.reduceLeDiff, Nat.reduceBEq, Nat.reduceEqDiff, e7, dn]
    refine CallOb.pureH (fun w' hp => hap _ w' hp i (by omega)) ?_
    rintro r3 N3 rfl
    refine ⟨?_⟩
    simp (config := { maxSteps := 4000000 }) only [↓sx0, ↓sx1, ↓sx2, ↓sx3, ↓sx4, ↓sx5, ↓sx6, sx0, sx1, sx2, sx3, sx4, sx5, sx6, tf53, ev3_hold, sxo, sxc, sxp, sxq, sxr, sxs, sxl, sxm, Int.reduceBEq, Int.reduceBNe, Int.reduceLT, Int.reduceLE, Int.reduceEq, Int.reduceGT, Int.reduceGE, Int.reduceToNat, ↓reduceIte, List.reduceReplicate, Nat.reduceAdd, Nat.reduceSub, Nat.reduceMul, Nat.reduceLT, Nat.reduceLeDiff, Nat.reduceBEq, Nat.reduceEqDiff]
    refine ld17 (by simp) ?_
    simp (config := { maxSteps := 4000000 }) only [↓sx0, ↓sx1, ↓sx2, ↓sx3, ↓sx4, ↓sx5, ↓sx6, sx0, sx1, sx2, sx3, sx4, sx5, sx6, tf53, ev3_hold, sxo, sxc, sxp, sxq, sxr, sxs, sxl, sxm, Int.reduceBEq, Int.reduceBNe, Int.reduceLT, Int.reduceLE, Int.reduceEq, Int.reduceGT, Int.reduceGE, Int.reduceToNat, ↓reduceIte, List.reduceReplicate, Nat.reduceAdd, Nat.reduceSub, Nat.reduceMul, Nat.reduceLT, Nat.reduceLeDiff, Nat.reduceBEq, Nat.reduceEqDiff, f1, f2, e7]
    refine ⟨by omega, _, rfl, ?_⟩
    rw [← hRe]
    refine wr_at (A := N3 ++ [RB (mixL FL F i), C17]) (B := [C18]) (k := i) (u := rch c A K T i) (l := mixL RL Z i) (List.append_assoc N3 [RB (mixL FL F i), C17] (_ :: [C18])).symm i1_len (by omega) (by omega) ?_
    rw [hRe, hst]
    simp (config := { maxSteps := 4000000 }) only [↓sx0, ↓sx1, ↓sx2, ↓sx3, ↓sx4, ↓sx5, ↓sx6, sx0, sx1, sx2, sx3, sx4, sx5, sx6, tf53, ev3_hold, sxo, sxc, sxp, sxq, sxr, sxs, sxl, sxm, Int.reduceBEq, Int.reduceBNe, Int.reduceLT, Int.reduceLE, Int.reduceEq, Int.reduceGT, Int.reduceGE, Int.reduceToNat, ↓reduceIte, List.reduceReplicate, Nat.reduceAdd, Nat.reduceSub, Nat.reduceMul, Nat.reduceLT, Nat.reduceLeDiff, Nat.reduceBEq, Nat.reduceEqDiff, pl53_lk]
    refine ld18 (by simp) ?_
    simp (config := { maxSteps := 4000000 }) only [↓sx0, ↓sx1, ↓sx2, ↓sx3, ↓sx4, ↓sx5, ↓sx6, sx0, sx1, sx2, sx3, sx4, sx5, sx6, tf53, ev3_hold, sxo, sxc, sxp, sxq, sxr, sxs, sxl, sxm, Int.reduceBEq, Int.reduceBNe, Int.reduceLT, Int.reduceLE, Int.reduceEq, Int.reduceGT, Int.reduceGE, Int.reduceToNat, ↓reduceIte, List.reduceReplicate, Nat.reduceAdd, Nat.reduceSub, Nat.reduceMul, Nat.reduceLT, Nat.reduceLeDiff, Nat.reduceBEq, Nat.reduceEqDiff, dn]
    refine CallOb.pureH (fun w' hp => hfl _ w' hp i (by omega)) ?_
    rintro r4 N4 rfl
    refine ⟨?_⟩
    simp (config := { maxSteps := 4000000 }) only [↓sx0, ↓sx1, ↓sx2, ↓sx3, ↓sx4, ↓sx5, ↓sx6, sx0, sx1, sx2, sx3, sx4, sx5, sx6, tf53, ev3_hold, sxo, sxc, sxp, sxq, sxr, sxs, sxl, sxm, Int.reduceBEq, Int.reduceBNe, Int.reduceLT, Int.reduceLE, Int.reduceEq, Int.reduceGT, Int.reduceGE, Int.reduceToNat, ↓reduceIte, List.reduceReplicate, Nat.reduceAdd, Nat.reduceSub, Nat.reduceMul, Nat.reduceLT, Nat.reduceLeDiff, Nat.reduceBEq, Nat.reduceEqDiff, e7]
    refine ⟨by omega, _, rfl, ?_⟩
    rw [← hBe]
    refine wr_at (A := N4 ++ N3) (k := i) (u := c.flt g T i) (l := mixL FL F i) (by simp only [List.append_assoc]; rfl) b1_len (by omega) (by omega) ?_
    rw [hBe, hsf]
    simp (config := { maxSteps := 4000000 }) only [↓sx0, ↓sx1, ↓sx2, ↓sx3, ↓sx4, ↓sx5, ↓sx6, sx0, sx1, sx2, sx3, sx4, sx5, sx6, tf53, ev3_hold, sxo, sxc, sxp, sxq, sxr, sxs, sxl, sxm, Int.reduceBEq, Int.reduceBNe, Int.reduceLT, Int.reduceLE, Int.reduceEq, Int.reduceGT, Int.reduceGE, Int.reduceToNat, ↓reduceIte, List.reduceReplicate, Nat.reduceAdd, Nat.reduceSub, Nat.reduceMul, Nat.reduceLT, Nat.reduceLeDiff, Nat.reduceBEq, Nat.reduceEqDiff, e8]
    refine ⟨i + 1, _, rfl, HImp.app _ _ _, ⟨by omega, rfl⟩, by omega⟩
  subst hin
  have e7 : ((c.depth.length : Int) < (c.depth.length : Int)) = False := eq_false (by omega)
  have hmR : mixL RL Z c.depth.length = RL := by
    have := mixL_end (show RL.length = Z.length by omega)
    rwa [hRLl] at this
  have hmF : mixL FL F c.depth.length = FL := by
    have := mixL_end (show FL.length = F.length by omega)
    rwa [hFLl] at this
  refine ⟨?_⟩
  simp (config := { maxSteps := 4000000 }) only [↓sx0, ↓sx1, ↓sx2, ↓sx3, ↓sx4, ↓sx5, ↓sx6, sx0, sx1, sx2, sx3, sx4, sx5, sx6, tf53, ev3_hold, sxo, sxc, sxp, sxq, sxr, sxs, sxl, sxm, Int.reduceBEq, Int.reduceBNe, Int.reduceLT, Int.reduceLE, Int.reduceEq, Int.reduceGT, Int.reduceGE, Int.reduceToNat, ↓reduceIte, List.reduceReplicate, Nat.reduceAdd, Nat.reduceSub, Nat.reduceMul, Nat.reduceLT, Nat.reduceLeDiff, Nat.reduceBEq, Nat.reduceEqDiff, e7, hmR, hmF]
  refine ld17 (by simp) ?_
  simp (config := { maxSteps := 4000000 }) only [↓sx0, ↓sx1, ↓sx2, ↓sx3, ↓sx4, ↓sx5, ↓sx6, sx0, sx1, sx2, sx3, sx4, sx5, sx6, tf53, ev3_hold, sxo, sxc, sxp, sxq, sxr, sxs, sxl, sxm, Int.reduceBEq, Int.reduceBNe, Int.reduceLT, Int.reduceLE, Int.reduceEq, Int.reduceGT, Int.reduceGE, Int.reduceToNat, ↓reduceIte, List.reduceReplicate, Nat.reduceAdd, Nat.reduceSub, Nat.reduceMul, Nat.reduceLT, Nat.reduceLeDiff, Nat.reduceBEq, Nat.reduceEqDiff]
  refine ⟨by omega, by omega, by omega, fun rl => ?_⟩
  rw [show zerosL c.depth.length [Value.int .i64 0] = ints (List.replicate c.depth.length 0) from zeros_cat i1 0 _, hZe, hRe]
  refine ld17 (by simp) ?_
  simp (config := { maxSteps := 4000000 }) only [↓sx0, ↓sx1, ↓sx2, ↓sx3, ↓sx4, ↓sx5, ↓sx6, sx0, sx1, sx2, sx3, sx4, sx5, sx6, tf53, ev3_hold, sxo, sxc, sxp, sxq, sxr, sxs, sxl, sxm, Int.reduceBEq, Int.reduceBNe, Int.reduceLT, Int.reduceLE, Int.reduceEq, Int.reduceGT, Int.reduceGE, Int.reduceToNat, ↓reduceIte, List.reduceReplicate, Nat.reduceAdd, Nat.reduceSub, Nat.reduceMul, Nat.reduceLT, Nat.reduceLeDiff, Nat.reduceBEq, Nat.reduceEqDiff]
  generalize hVLe : vlenL c A K g T = VL at hVl hVg
  refine loop_constH [RR rl (mixL VL Z 0), RB FL, C17, RR rr RL, C18] (by rw [mixL_zero]; exact HImp.refl _ _) [(24, 26), (134, 174)] (fun i : Nat => [(134, I i)])
    (fun i H1 => i ≤ c.depth.length ∧ H1 = [RR rl (mixL VL Z i), RB FL, C17, RR rr RL, C18]) (fun i => c.depth.length - i) 0 ?_ ⟨Nat.zero_le _, rfl⟩ ?_
  · simp (config := { maxSteps := 4000000 }) only [↓sx0, ↓sx1, ↓sx2, ↓sx3, ↓sx4, ↓sx5, ↓sx6, sx0, sx1, sx2, sx3, sx4, sx5, sx6, tf53, ev3_hold, sxo, sxc, sxp, sxq, sxr, sxs, sxl, sxm, Int.reduceBEq, Int.reduceBNe, Int.reduceLT, Int.reduceLE, Int.reduceEq, Int.reduceGT, Int.reduceGE, Int.reduceToNat, ↓reduceIte, List.reduceReplicate, Nat.reduceAdd, Nat.reduceSub, Nat.reduceMul, Nat.reduceLT, Nat.reduceLeDiff, Nat.reduceBEq, Nat.reduceEqDiff]
    simp
  clear e7
  rintro i H1 g2 ⟨hi, rfl⟩
  by_cases hin : i = c.depth.length
  · have e7 : ((i : Int) < (c.depth.length : Int)) = False := eq_false (by omega)
    have hmV : mixL VL Z i = VL := by
      have := mixL_end (show VL.length = Z.length by omega)
      rwa [hVl, ← hin] at this
    refine ⟨?_⟩
    simp (config := { maxSteps := 4000000 }) only [↓sx0, ↓sx1, ↓sx2, ↓sx3, ↓sx4, ↓sx5, ↓sx6, sx0, sx1, sx2, sx3, sx4, sx5, sx6, tf53, ev3_hold, sxo, sxc, sxp, sxq, sxr, sxs, sxl, sxm, Int.reduceBEq, Int.reduceBNe, Int.reduceLT, Int.reduceLE, Int.reduceEq, Int.reduceGT, Int.reduceGE, Int.reduceToNat, ↓reduceIte, List.reduceReplicate, Nat.reduceAdd, Nat.reduceSub, Nat.reduceMul, Nat.reduceLT, Nat.reduceLeDiff, Nat.reduceBEq, Nat.reduceEqDiff, e7, hmV]
    refine ⟨_, rfl, ?_⟩
    rw [← hRe]
    exact Got.row (by omega) List.mem_cons_self (fun h => by cases h)
  have e7 : ((i : Int) < (c.depth.length : Int)) = True := eq_true (by omega)
  have e8 : IntKind.i64.wrap ((i : Int) + 1) = ((i + 1 : Nat) : Int) := (wrap_id (by omega)).trans (by omega)
  have hpi := hrb i (by omega)
  have f3 : IntKind.i64.wrap (A.scope * D) = A.scope * D := wrap_id (by rw [← hDe]; omega)
  have hRi := hRLg i (by omega)
  have hFi := hFLg i (by omega)
  have hui : RL[i]? = some (rch c A K T i) := by rw [← hRi]; exact getD_at (by omega) 0
  have hM : ∃ M, max (rch c A K T i) (A.scope * D) = M := ⟨_, rfl⟩
  obtain ⟨M, hM⟩ := hM
  have hrn : ∃ n, rch c A K T i = n := ⟨_, rfl⟩
  obtain ⟨n, hrn⟩ := hrn
  have hvi := hVg i (by omega)
  unfold vlen at hvi
  rw [hDe, hM] at hvi
  have hLZ : VL.length = Z.length := by omega
  have hml := mixL_len hLZ (i := i) (by omega)
  have hst := mixL_set hLZ (i := i) (by omega) 0
  have hvp : veersP c A K g T i M ↔ c.flt g T i = true ∧ M ≤ A.cable ∧ (M ≤ n ∨ ∀ y, y < RL.length → lv RL y ≤ M → FL.getD y false = true) := by
    unfold veersP
    rw [hDe, hrn]
    have hx : (∀ y, y < RL.length → lv RL y ≤ M → FL.getD y false = true) ↔ ∀ y, y < c.depth.length → rch c A K T y ≤ M → c.flt g T y = true := by
      rw [hRLl]
      constructor
      · intro h y hy hle
        rw [← hFLg y hy]
        exact h y hy (by unfold lv; rw [hRLg y hy]; exact hle)
      · intro h y hy hle
        rw [hFLg y hy]
        exact h y hy (by unfold lv at hle; rw [hRLg y hy] at hle; exact hle)
    rw [hx]
    rw [hrn] at hM
    constructor
    · rintro ⟨h1, h2, h3, h4, h5⟩
      exact ⟨h1, h4, h5.imp (fun h => by omega) id⟩
    · rintro ⟨h1, h4, h5⟩
      exact ⟨h1, by omega, by omega, h4, h5.imp (fun h => by omega) id⟩
  rw [hrn] at hui hM
  have hgood : veersP c A K g T i M → (mixL VL Z i).set i M = mixL VL Z (i + 1) := fun h => by
    rw [if_pos h] at hvi
    rw [← hst, ← hvi]
    rfl
  have hbad : ¬ veersP c A K g T i M → (mixL VL Z i).set i (-1) = mixL VL Z (i + 1) := fun h => by
    rw [if_neg h] at hvi
    rw [← hst, ← hvi]
    rfl
  have hrR : ∀ G, RR rr RL ∈ G → Rdv ⟨w, fun _ => False⟩ G (.slice (some ⟨rr, 0, none⟩) c.depth.length c.depth.length) 1 (ints RL) := fun G hG => by
    rw [← hRe] at hG
    exact row_rdv (E := 3) hG ⟨_, _, _, rfl, by rw [cat_len i1_len, hRLl], fun h => by cases h⟩
  have hrF : ∀ G, RB FL ∈ G → Rdv ⟨w, fun _ => False⟩ G (.slice (some ⟨rf, 0, none⟩) c.depth.length c.depth.length) 1 (bools FL) := fun G hG => by
    rw [← hBe] at hG
    exact row_rdv (E := 4) hG ⟨_, _, _, rfl, by rw [cat_len b1_len, hFLl], fun h => by cases h⟩
  have wrl : ∀ (l : List Int) (u : Int) {K : List HO → Prop}, l.length = c.depth.length → K (RR rl (l.set i u) :: [RB FL, C17, RR rr RL, C18]) → hold (WrOb (RR rl l :: [RB FL, C17, RR rr RL, C18]) ((⟨rl, 0, none⟩ : Addr).add (i * 1)) [I u] K) ⟨0⟩ := fun l u K hl hK => by
    rw [← hRe] at hK ⊢
    exact wr_at (A := []) (k := i) (u := u) (l := l) rfl i1_len hl (by omega) hK
  have hsl : ((mixL VL Z i).set i M).length = c.depth.length := by rw [List.length_set]; omega
  have hFat : ∀ q, c.flt g T i = q → FL[i]? = some q := fun q hq => by rw [← hq, ← hFi]; exact getD_at (by omega) false
  by_cases k1 : M > A.cable
  · as_aux_lemma =>
    have p1 : (M > A.cable) = True := eq_true k1
    have hb := hbad fun h => by have := (hvp.1 h).2.1; omega
    refine ⟨?_⟩
    simp (config := { maxSteps := 4000000 }) only [↓sx0, ↓sx1, ↓sx2, ↓sx3, ↓sx4, ↓sx5, ↓sx6, sx0, sx1, sx2, sx3, sx4, sx5, sx6, tf53, ev3_hold, sxo, sxc, sxp, sxq, sxr, sxs, sxl, sxm, Int.reduceBEq, Int.reduceBNe, Int.reduceLT, Int.reduceLE, Int.reduceEq, Int.reduceGT, Int.reduceGE, Int.reduceToNat, ↓reduceIte, List.reduceReplicate, Nat.reduceAdd, Nat.reduceSub, Nat.reduceMul, Nat.reduceLT, Nat.reduceLeDiff, Nat.reduceBEq, Nat.reduceEqDiff, e7]
    refine amid (at_1 (hrR _ (by simp)) i1_len hui rfl fun ad1 => ?_)
    simp (config := { maxSteps := 4000000 }) only [↓sx0, ↓sx1, ↓sx2, ↓sx3, ↓sx4, ↓sx5, ↓sx6, sx0, sx1, sx2, sx3, sx4, sx5, sx6, tf53, ev3_hold, sxo, sxc, sxp, sxq, sxr, sxs, sxl, sxm, Int.reduceBEq, Int.reduceBNe, Int.reduceLT, Int.reduceLE, Int.reduceEq, Int.reduceGT, Int.reduceGE, Int.reduceToNat, ↓reduceIte, List.reduceReplicate, Nat.reduceAdd, Nat.reduceSub, Nat.reduceMul, Nat.reduceLT, Nat.reduceLeDiff, Nat.reduceBEq, Nat.reduceEqDiff, f3, hM, e7]
    refine ⟨by omega, _, rfl, ?_⟩
    refine wrl _ M (by omega) ?_
    simp (config := { maxSteps := 4000000 }) only [↓sx0, ↓sx1, ↓sx2, ↓sx3, ↓sx4, ↓sx5, ↓sx6, sx0, sx1, sx2, sx3, sx4, sx5, sx6, tf53, ev3_hold, sxo, sxc, sxp, sxq, sxr, sxs, sxl, sxm, Int.reduceBEq, Int.reduceBNe, Int.reduceLT, Int.reduceLE, Int.reduceEq, Int.reduceGT, Int.reduceGE, Int.reduceToNat, ↓reduceIte, List.reduceReplicate, Nat.reduceAdd, Nat.reduceSub, Nat.reduceMul, Nat.reduceLT, Nat.reduceLeDiff, Nat.reduceBEq, Nat.reduceEqDiff, p1, e7]
    refine ⟨by omega, _, rfl, ?_⟩
    refine wrl _ (-1) hsl ?_
    rw [List.set_set, hb]
    simp (config := { maxSteps := 4000000 }) only [↓sx0, ↓sx1, ↓sx2, ↓sx3, ↓sx4, ↓sx5, ↓sx6, sx0, sx1, sx2, sx3, sx4, sx5, sx6, tf53, ev3_hold, sxo, sxc, sxp, sxq, sxr, sxs, sxl, sxm, Int.reduceBEq, Int.reduceBNe, Int.reduceLT, Int.reduceLE, Int.reduceEq, Int.reduceGT, Int.reduceGE, Int.reduceToNat, ↓reduceIte, List.reduceReplicate, Nat.reduceAdd, Nat.reduceSub, Nat.reduceMul, Nat.reduceLT, Nat.reduceLeDiff, Nat.reduceBEq, Nat.reduceEqDiff, e8]
    exact ⟨i + 1, _, rfl, HImp.refl _ _, ⟨by omega, rfl⟩, by omega⟩
  have p1 : (M > A.cable) = False := eq_false k1
  have hq : ∃ q, c.flt g T i = q := ⟨_, rfl⟩
  obtain ⟨q, hq⟩ := hq
  have hqa := hFat q hq
  cases q with
  | false =>
    as_aux_lemma =>
    have hb := hbad fun h => by have := (hvp.1 h).1; rw [hq] at this; cases this
    refine ⟨?_⟩
    simp (config := { maxSteps := 4000000 }) only [↓sx0, ↓sx1, ↓sx2, ↓sx3, ↓sx4, ↓sx5, ↓sx6, sx0, sx1, sx2, sx3, sx4, sx5, sx6, tf53, ev3_hold, sxo, sxc, sxp, sxq, sxr, sxs, sxl, sxm, Int.reduceBEq, Int.reduceBNe, Int.reduceLT, Int.reduceLE, Int.reduceEq, Int.reduceGT, Int.reduceGE, Int.reduceToNat, ↓reduceIte, List.reduceReplicate, Nat.reduceAdd, Nat.reduceSub, Nat.reduceMul, Nat.reduceLT, Nat.reduceLeDiff, Nat.reduceBEq, Nat.reduceEqDiff, e7]
    refine amid (at_1 (hrR _ (by simp)) i1_len hui rfl fun ad1 => ?_)
    simp (config := { maxSteps := 4000000 }) only [↓sx0, ↓sx1, ↓sx2, ↓sx3, ↓sx4, ↓sx5, ↓sx6, sx0, sx1, sx2, sx3, sx4, sx5, sx6, tf53, ev3_hold, sxo, sxc, sxp, sxq, sxr, sxs, sxl, sxm, Int.reduceBEq, Int.reduceBNe, Int.reduceLT, Int.reduceLE, Int.reduceEq, Int.reduceGT, Int.reduceGE, Int.reduceToNat, ↓reduceIte, List.reduceReplicate, Nat.reduceAdd, Nat.reduceSub, Nat.reduceMul, Nat.reduceLT, Nat.reduceLeDiff, Nat.reduceBEq, Nat.reduceEqDiff, f3, hM, e7]
    refine ⟨by omega, _, rfl, ?_⟩
    refine wrl _ M (by omega) ?_
    simp (config := { maxSteps := 4000000 }) only [↓sx0, ↓sx1, ↓sx2, ↓sx3, ↓sx4, ↓sx5, ↓sx6, sx0, sx1, sx2, sx3, sx4, sx5, sx6, tf53, ev3_hold, sxo, sxc, sxp, sxq, sxr, sxs, sxl, sxm, Int.reduceBEq, Int.reduceBNe, Int.reduceLT, Int.reduceLE, Int.reduceEq, Int.reduceGT, Int.reduceGE, Int.reduceToNat, ↓reduceIte, List.reduceReplicate, Nat.reduceAdd, Nat.reduceSub, Nat.reduceMul, Nat.reduceLT, Nat.reduceLeDiff, Nat.reduceBEq, Nat.reduceEqDiff, p1, e7]
    refine ld18 (by simp) ?_
    simp (config := { maxSteps := 4000000 }) only [↓sx0, ↓sx1, ↓sx2, ↓sx3, ↓sx4, ↓sx5, ↓sx6, sx0, sx1, sx2, sx3, sx4, sx5, sx6, tf53, ev3_hold, sxo, sxc, sxp, sxq, sxr, sxs, sxl, sxm, Int.reduceBEq, Int.reduceBNe, Int.reduceLT, Int.reduceLE, Int.reduceEq, Int.reduceGT, Int.reduceGE, Int.reduceToNat, ↓reduceIte, List.reduceReplicate, Nat.reduceAdd, Nat.reduceSub, Nat.reduceMul, Nat.reduceLT, Nat.reduceLeDiff, Nat.reduceBEq, Nat.reduceEqDiff, e7]
    refine ⟨by omega, _, rfl, ?_⟩
    refine ld_at1 (hrF _ (by simp)) b1_len hqa rfl ?_
    simp (config := { maxSteps := 4000000 }) only [↓sx0, ↓sx1, ↓sx2, ↓sx3, ↓sx4, ↓sx5, ↓sx6, sx0, sx1, sx2, sx3, sx4, sx5, sx6, tf53, ev3_hold, sxo, sxc, sxp, sxq, sxr, sxs, sxl, sxm, Int.reduceBEq, Int.reduceBNe, Int.reduceLT, Int.reduceLE, Int.reduceEq, Int.reduceGT, Int.reduceGE, Int.reduceToNat, ↓reduceIte, List.reduceReplicate, Nat.reduceAdd, Nat.reduceSub, Nat.reduceMul, Nat.reduceLT, Nat.reduceLeDiff, Nat.reduceBEq, Nat.reduceEqDiff, e7]
    refine ⟨by omega, _, rfl, ?_⟩
    refine wrl _ (-1) hsl ?_
    rw [List.set_set, hb]
    simp (config := { maxSteps := 4000000 }) only [↓sx0, ↓sx1, ↓sx2, ↓sx3, ↓sx4, ↓sx5, ↓sx6, sx0, sx1, sx2, sx3, sx4, sx5, sx6, tf53, ev3_hold, sxo, sxc, sxp, sxq, sxr, sxs, sxl, sxm, Int.reduceBEq, Int.reduceBNe, Int.reduceLT, Int.reduceLE, Int.reduceEq, Int.reduceGT, Int.reduceGE, Int.reduceToNat, ↓reduceIte, List.reduceReplicate, Nat.reduceAdd, Nat.reduceSub, Nat.reduceMul, Nat.reduceLT, Nat.reduceLeDiff, Nat.reduceBEq, Nat.reduceEqDiff, e8]
    exact ⟨i + 1, _, rfl, HImp.refl _ _, ⟨by omega, rfl⟩, by omega⟩
  | true =>
  by_cases k2 : M > n
  case neg =>
    as_aux_lemma =>
    have p2 : (M > n) = False := eq_false k2
    have hg' := hgood (hvp.2 ⟨hq, by omega, .inl (by omega)⟩)
    refine ⟨?_⟩
    simp (config := { maxSteps := 4000000 }) only [↓sx0, ↓sx1, ↓sx2, ↓sx3, ↓sx4, ↓sx5, ↓sx6, sx0, sx1, sx2, sx3, sx4, sx5, sx6, tf53, ev3_hold, sxo, sxc, sxp, sxq, sxr, sxs, sxl, sxm, Int.reduceBEq, Int.reduceBNe, Int.reduceLT, Int.reduceLE, Int.reduceEq, Int.reduceGT, Int.reduceGE, Int.reduceToNat, ↓reduceIte, List.reduceReplicate, Nat.reduceAdd, Nat.reduceSub, Nat.reduceMul, Nat.reduceLT, Nat.reduceLeDiff, Nat.reduceBEq, Nat.reduceEqDiff, e7]
    refine amid (at_1 (hrR _ (by simp)) i1_len hui rfl fun ad1 => ?_)
    simp (config := { maxSteps := 4000000 }) only [↓sx0, ↓sx1, ↓sx2, ↓sx3, ↓sx4, ↓sx5, ↓sx6, sx0, sx1, sx2, sx3, sx4, sx5, sx6, tf53, ev3_hold, sxo, sxc, sxp, sxq, sxr, sxs, sxl, sxm, Int.reduceBEq, Int.reduceBNe, Int.reduceLT, Int.reduceLE, Int.reduceEq, Int.reduceGT, Int.reduceGE, Int.reduceToNat, ↓reduceIte, List.reduceReplicate, Nat.reduceAdd, Nat.reduceSub, Nat.reduceMul, Nat.reduceLT, Nat.reduceLeDiff, Nat.reduceBEq, Nat.reduceEqDiff, f3, hM, e7]
    refine ⟨by omega, _, rfl, ?_⟩
    refine wrl _ M (by omega) ?_
    simp (config := { maxSteps := 4000000 }) only [↓sx0, ↓sx1, ↓sx2, ↓sx3, ↓sx4, ↓sx5, ↓sx6, sx0, sx1, sx2, sx3, sx4, sx5, sx6, tf53, ev3_hold, sxo, sxc, sxp, sxq, sxr, sxs, sxl, sxm, Int.reduceBEq, Int.reduceBNe, Int.reduceLT, Int.reduceLE, Int.reduceEq, Int.reduceGT, Int.reduceGE, Int.reduceToNat, ↓reduceIte, List.reduceReplicate, Nat.reduceAdd, Nat.reduceSub, Nat.reduceMul, Nat.reduceLT, Nat.reduceLeDiff, Nat.reduceBEq, Nat.reduceEqDiff, p1, e7]
    refine ld18 (by simp) ?_
    simp (config := { maxSteps := 4000000 }) only [↓sx0, ↓sx1, ↓sx2, ↓sx3, ↓sx4, ↓sx5, ↓sx6, sx0, sx1, sx2, sx3, sx4, sx5, sx6, tf53, ev3_hold, sxo, sxc, sxp, sxq, sxr, sxs, sxl, sxm, Int.reduceBEq, Int.reduceBNe, Int.reduceLT, Int.reduceLE, Int.reduceEq, Int.reduceGT, Int.reduceGE, Int.reduceToNat, ↓reduceIte, List.reduceReplicate, Nat.reduceAdd, Nat.reduceSub, Nat.reduceMul, Nat.reduceLT, Nat.reduceLeDiff, Nat.reduceBEq, Nat.reduceEqDiff, e7]
    refine ⟨by omega, _, rfl, ?_⟩
    refine ld_at1 (hrF _ (by simp)) b1_len hqa rfl ?_
    rw [hg']
    simp (config := { maxSteps := 4000000 }) only [↓sx0, ↓sx1, ↓sx2, ↓sx3, ↓sx4, ↓sx5, ↓sx6, sx0, sx1, sx2, sx3, sx4, sx5, sx6, tf53, ev3_hold, sxo, sxc, sxp, sxq, sxr, sxs, sxl, sxm, Int.reduceBEq, Int.reduceBNe, Int.reduceLT, Int.reduceLE, Int.reduceEq, Int.reduceGT, Int.reduceGE, Int.reduceToNat, ↓reduceIte, List.reduceReplicate, Nat.reduceAdd, Nat.reduceSub, Nat.reduceMul, Nat.reduceLT, Nat.reduceLeDiff, Nat.reduceBEq, Nat.reduceEqDiff, e7, p2, e8]
    exact ⟨i + 1, _, rfl, HImp.refl _ _, ⟨by omega, rfl⟩, by omega⟩
  as_aux_lemma =>
  have p2 : (M > n) = True := eq_true k2
  have hcl := fun w' (hp : Hp ⟨w, fun _ => False⟩ [RR rl ((mixL VL Z i).set i M), RB FL, C17, RR rr RL, C18] w') => swings_fn w' b17 b18 (.slice (some ⟨rr, 0, none⟩) c.depth.length c.depth.length) (.slice (some ⟨rf, 0, none⟩) c.depth.length c.depth.length) RL FL
    (cells_hp (by rw [hC17]; simp) hp) (cells_hp (by rw [hC18]; simp) hp) (row_hp (E := 3) (by rw [hRe]; simp) hp) (row_hp (E := 4) (by rw [hBe]; simp) hp) (by omega) (by omega) M
  refine ⟨?_⟩
  simp (config := { maxSteps := 4000000 }) only [↓sx0, ↓sx1, ↓sx2, ↓sx3, ↓sx4, ↓sx5, ↓sx6, sx0, sx1, sx2, sx3, sx4, sx5, sx6, tf53, ev3_hold, sxo, sxc, sxp, sxq, sxr, sxs, sxl, sxm, Int.reduceBEq, Int.reduceBNe, Int.reduceLT, Int.reduceLE, Int.reduceEq, Int.reduceGT, Int.reduceGE, Int.reduceToNat, ↓reduceIte, List.reduceReplicate, Nat.reduceAdd, Nat.reduceSub, Nat.reduceMul, Nat.reduceLT, Nat.reduceLeDiff, Nat.reduceBEq, Nat.reduceEqDiff, e7]
  refine amid (at_1 (hrR _ (by simp)) i1_len hui rfl fun ad1 => ?_)
  simp (config := { maxSteps := 4000000 }) only [↓sx0, ↓sx1, ↓sx2, ↓sx3, ↓sx4, ↓sx5, ↓sx6, sx0, sx1, sx2, sx3, sx4, sx5, sx6, tf53, ev3_hold, sxo, sxc, sxp, sxq, sxr, sxs, sxl, sxm, Int.reduceBEq, Int.reduceBNe, Int.reduceLT, Int.reduceLE, Int.reduceEq, Int.reduceGT, Int.reduceGE, Int.reduceToNat, ↓reduceIte, List.reduceReplicate, Nat.reduceAdd, Nat.reduceSub, Nat.reduceMul, Nat.reduceLT, Nat.reduceLeDiff, Nat.reduceBEq, Nat.reduceEqDiff, f3, hM, e7]
  refine ⟨by omega, _, rfl, ?_⟩
  refine wrl _ M (by omega) ?_
  simp (config := { maxSteps := 4000000 }) only [↓sx0, ↓sx1, ↓sx2, ↓sx3, ↓sx4, ↓sx5, ↓sx6, sx0, sx1, sx2, sx3, sx4, sx5, sx6, tf53, ev3_hold, sxo, sxc, sxp, sxq, sxr, sxs, sxl, sxm, Int.reduceBEq, Int.reduceBNe, Int.reduceLT, Int.reduceLE, Int.reduceEq, Int.reduceGT, Int.reduceGE, Int.reduceToNat, ↓reduceIte, List.reduceReplicate, Nat.reduceAdd, Nat.reduceSub, Nat.reduceMul, Nat.reduceLT, Nat.reduceLeDiff, Nat.reduceBEq, Nat.reduceEqDiff, p1, e7]
  refine ld18 (by simp) ?_
  simp (config := { maxSteps := 4000000 }) only [↓sx0, ↓sx1, ↓sx2, ↓sx3, ↓sx4, ↓sx5, ↓sx6, sx0, sx1, sx2, sx3, sx4, sx5, sx6, tf53, ev3_hold, sxo, sxc, sxp, sxq, sxr, sxs, sxl, sxm, Int.reduceBEq, Int.reduceBNe, Int.reduceLT, Int.reduceLE, Int.reduceEq, Int.reduceGT, Int.reduceGE, Int.reduceToNat, ↓reduceIte, List.reduceReplicate, Nat.reduceAdd, Nat.reduceSub, Nat.reduceMul, Nat.reduceLT, Nat.reduceLeDiff, Nat.reduceBEq, Nat.reduceEqDiff, e7]
  refine ⟨by omega, _, rfl, ?_⟩
  refine ld_at1 (hrF _ (by simp)) b1_len hqa rfl ?_
  simp (config := { maxSteps := 4000000 }) only [↓sx0, ↓sx1, ↓sx2, ↓sx3, ↓sx4, ↓sx5, ↓sx6, sx0, sx1, sx2, sx3, sx4, sx5, sx6, tf53, ev3_hold, sxo, sxc, sxp, sxq, sxr, sxs, sxl, sxm, Int.reduceBEq, Int.reduceBNe, Int.reduceLT, Int.reduceLE, Int.reduceEq, Int.reduceGT, Int.reduceGE, Int.reduceToNat, ↓reduceIte, List.reduceReplicate, Nat.reduceAdd, Nat.reduceSub, Nat.reduceMul, Nat.reduceLT, Nat.reduceLeDiff, Nat.reduceBEq, Nat.reduceEqDiff, p2, dn]
  refine CallOb.pureH (fun w' hp => hcl w' hp) ?_
  rintro r5 N5 ⟨b, rfl, hb⟩
  cases b with
  | true =>
    have hg' := hgood (hvp.2 ⟨hq, by omega, .inr (hb.1 rfl)⟩)
    refine ⟨?_⟩
    rw [hg']
    simp (config := { maxSteps := 4000000 }) only [↓sx0, ↓sx1, ↓sx2, ↓sx3, ↓sx4, ↓sx5, ↓sx6, sx0, sx1, sx2, sx3, sx4, sx5, sx6, tf53, ev3_hold, sxo, sxc, sxp, sxq, sxr, sxs, sxl, sxm, Int.reduceBEq, Int.reduceBNe, Int.reduceLT, Int.reduceLE, Int.reduceEq, Int.reduceGT, Int.reduceGE, Int.reduceToNat, ↓reduceIte, List.reduceReplicate, Nat.reduceAdd, Nat.reduceSub, Nat.reduceMul, Nat.reduceLT, Nat.reduceLeDiff, Nat.reduceBEq, Nat.reduceEqDiff, e8]
    exact ⟨i + 1, _, rfl, HImp.app _ _ _, ⟨by omega, rfl⟩, by omega⟩
  | false =>
    have hb2 := hbad fun h => by
      rcases (hvp.1 h).2.2 with h | h
      · omega
      · have := hb.2 h
        cases this
    refine ⟨?_⟩
    simp (config := { maxSteps := 4000000 }) only [↓sx0, ↓sx1, ↓sx2, ↓sx3, ↓sx4, ↓sx5, ↓sx6, sx0, sx1, sx2, sx3, sx4, sx5, sx6, tf53, ev3_hold, sxo, sxc, sxp, sxq, sxr, sxs, sxl, sxm, Int.reduceBEq, Int.reduceBNe, Int.reduceLT, Int.reduceLE, Int.reduceEq, Int.reduceGT, Int.reduceGE, Int.reduceToNat, ↓reduceIte, List.reduceReplicate, Nat.reduceAdd, Nat.reduceSub, Nat.reduceMul, Nat.reduceLT, Nat.reduceLeDiff, Nat.reduceBEq, Nat.reduceEqDiff, e7]
    refine ⟨by omega, _, rfl, ?_⟩
    rw [← hRe rl]
    refine wr_at (A := N5) (k := i) (u := (-1 : Int)) (l := (mixL VL Z i).set i M) rfl i1_len hsl (by omega) ?_
    rw [hRe, List.set_set, hb2]
    simp (config := { maxSteps := 4000000 }) only [↓sx0, ↓sx1, ↓sx2, ↓sx3, ↓sx4, ↓sx5, ↓sx6, sx0, sx1, sx2, sx3, sx4, sx5, sx6, tf53, ev3_hold, sxo, sxc, sxp, sxq, sxr, sxs, sxl, sxm, Int.reduceBEq, Int.reduceBNe, Int.reduceLT, Int.reduceLE, Int.reduceEq, Int.reduceGT, Int.reduceGE, Int.reduceToNat, ↓reduceIte, List.reduceReplicate, Nat.reduceAdd, Nat.reduceSub, Nat.reduceMul, Nat.reduceLT, Nat.reduceLeDiff, Nat.reduceBEq, Nat.reduceEqDiff, e8]
    exact ⟨i + 1, _, rfl, HImp.app _ _ _, ⟨by omega, rfl⟩, by omega⟩

end Go.Proofs.YtcnjhgnlcnmagaaDoor
