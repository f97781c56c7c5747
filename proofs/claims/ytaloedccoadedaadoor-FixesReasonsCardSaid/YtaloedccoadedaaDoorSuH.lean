/- A part of a proof: the symbolic walk and what it shows of single functions. -/
import Derived.Test.YtaloedccoadedaaDoorSuG
set_option linter.all false
namespace Go.Proofs.YtaloedccoadedaaDoor
open Go.RowKit Go.SX
set_option maxRecDepth 20000
set_option maxHeartbeats 0
set_option linter.unusedSimpArgs false
set_option linter.unusedVariables false
theorem fixesReasons_fn (w : World) (hw : Ways w) (hb : Deb w) (v : Value) (d : Dis) (hd : DsOk w v d) (t k : Int) : SX.Fn Tryd.prog 12 [v, I t, I k] w (fun _ => False) fun q N => q = .bool true := by
  have hd0 := hd
  have hwk := fun (H : List HO) w' (hp : Hp ⟨w, fun _ => False⟩ H w') => works3_fn w' (hw.hp hp) (hb.hp hp)
  have hva := fun (H : List HO) w' (hp : Hp ⟨w, fun _ => False⟩ H w') => vague_fn w' (hw.hp hp) v d (hd0.hp hp)
  have hck := fun (hs : d.small) (H : List HO) w' (hp : Hp ⟨w, fun _ => False⟩ H w') => rcheck3_fn w' (hw.hp hp) v d (hd0.hp hp) hs
  have hwh := fun (hs : d.small) (t : Int) (H : List HO) w' (hp : Hp ⟨w, fun _ => False⟩ H w') => where_fn w' (hw.hp hp) v d (hd0.hp hp) hs t
  have hcd := fun (hs : d.small) (H : List HO) w' (hp : Hp ⟨w, fun _ => False⟩ H w') => course_fn w' (hw.hp hp) v d (hd0.hp hp) hs
  have hcf := fun (hs : d.small) (h10 : d.E = 0 → d.rs.length ≤ 10) (H : List HO) w' (hp : Hp ⟨w, fun _ => False⟩ H w') => conflict_fn w' (hw.hp hp) (hb.hp hp) v d (hd0.hp hp) hs h10
  have hsk := fun (hs : d.small) (h10 : d.E = 0 → d.rs.length ≤ 10) (t k : Int) (H : List HO) w' (hp : Hp ⟨w, fun _ => False⟩ H w') => struck_fn w' (hw.hp hp) (hb.hp hp) v d (hd0.hp hp) hs h10 t k
  have hon := fun (hf : d.few) (vl : Value) (L : List Int) (hLl : L.length ≤ 1000) (ha : ascB d.rs.length L) (but : Int) (hbut : -1 ≤ but ∧ but ≤ 1000) (H : List HO) w' (hp : Hp ⟨w, fun _ => False⟩ H w') (hL : Sl w' vl 1 (ints L)) => only_fn w' v vl d (hd0.hp hp) hf L hL hLl ha but hbut
  have hco := fun (q : Dis) (hs : q.small) (v' : Value) (w' : World) (hp : Ways w') (h : DsOk w' v' q) => course_fn w' hp v' q h hs
  have hW2 : ∀ (H : List HO) (w' : World), Hp ⟨w, fun _ => False⟩ H w' → Ways w' := fun H w' hp => hw.hp hp
  obtain ⟨sD, sT, sS, sR, rfl, hc, hsR⟩ := hd
  have hD := detR_ok (X := fun _ => False) hw hc (fun _ _ => id)
  obtain ⟨_, _, _, hh, hsD, hsT, hsS⟩ := hc
  cases hh
  obtain ⟨aT, nT, cT, rfl⟩ := hsT.shape
  obtain ⟨aR, nR, cR, rfl⟩ := hsR.shape
  have hnT := hsT.le spc_len (by omega)
  have hnR := hsR.le rpc_len (by omega)
  subst hnT hnR
  have hU : (∀ n, detR (.agg #[I d.c.wide, I d.c.high, sD, .slice aT d.c.tide.length cT, sS]) d.c 36 [.agg #[I d.c.wide, I d.c.high, sD, .slice aT d.c.tide.length cT, sS], I n] = some (.bool (inB n 0 (wr ((d.c.tide.length : Int) - 1))))) ∧ (∀ n, detR (.agg #[I d.c.wide, I d.c.high, sD, .slice aT d.c.tide.length cT, sS]) d.c 40 [.agg #[I d.c.wide, I d.c.high, sD, .slice aT d.c.tide.length cT, sS], I n] = some (.bool (isCellB d.c.wide d.c.high n))) := ⟨fun _ => rfl, fun _ => rfl⟩
  have dn : (∀ xs, detR (.agg #[I d.c.wide, I d.c.high, sD, .slice aT d.c.tide.length cT, sS]) d.c 13 xs = none) ∧ (∀ xs, detR (.agg #[I d.c.wide, I d.c.high, sD, .slice aT d.c.tide.length cT, sS]) d.c 15 xs = none) ∧ (∀ xs, detR (.agg #[I d.c.wide, I d.c.high, sD, .slice aT d.c.tide.length cT, sS]) d.c 14 xs = none) ∧ (∀ xs, detR (.agg #[I d.c.wide, I d.c.high, sD, .slice aT d.c.tide.length cT, sS]) d.c 22 xs = none) ∧ (∀ xs, detR (.agg #[I d.c.wide, I d.c.high, sD, .slice aT d.c.tide.length cT, sS]) d.c 29 xs = none) ∧ (∀ xs, detR (.agg #[I d.c.wide, I d.c.high, sD, .slice aT d.c.tide.length cT, sS]) d.c 17 xs = none) ∧ (∀ xs, detR (.agg #[I d.c.wide, I d.c.high, sD, .slice aT d.c.tide.length cT, sS]) d.c 35 xs = none) ∧ (∀ xs, detR (.agg #[I d.c.wide, I d.c.high, sD, .slice aT d.c.tide.length cT, sS]) d.c 18 xs = none) := ⟨fun _ => rfl, fun _ => rfl, fun _ => rfl, fun _ => rfl, fun _ => rfl, fun _ => rfl, fun _ => rfl, fun _ => rfl⟩
  refine walkC [11] [] [] hD Tryd.func12 rfl Tryd.ntmps12 res12 (by kernel_rfl) no_facts ?_
  simp (config := { maxSteps := 4000000 }) only [↓sx0, ↓sx1, ↓sx2, ↓sx3, ↓sx4, ↓sx5, ↓sx6, sx0, sx1, sx2, sx3, sx4, sx5, sx6, tf12, ev3_hold, sxo, sxc, sxp, sxq, sxr, sxs, sxl, sxm, Int.reduceBEq, Int.reduceBNe, Int.reduceLT, Int.reduceLE, Int.reduceEq, Int.reduceGT, Int.reduceGE, Int.reduceToNat, ↓reduceIte, List.reduceReplicate, Nat.reduceAdd, Nat.reduceSub, Nat.reduceMul, Nat.reduceLT, Nat.reduceLeDiff, Nat.reduceBEq, Nat.reduceEqDiff, dn]
  refine CallOb.pureH (fun w' hp => hva _ w' hp) ?_
  rintro q N ⟨b, rfl, hb1⟩
  cases b with
  | true =>
    refine ⟨?_⟩
    simp (config := { maxSteps := 4000000 }) only [↓sx0, ↓sx1, ↓sx2, ↓sx3, ↓sx4, ↓sx5, ↓sx6, sx0, sx1, sx2, sx3, sx4, sx5, sx6, tf12, ev3_hold, sxo, sxc, sxp, sxq, sxr, sxs, sxl, sxm, Int.reduceBEq, Int.reduceBNe, Int.reduceLT, Int.reduceLE, Int.reduceEq, Int.reduceGT, Int.reduceGE, Int.reduceToNat, ↓reduceIte, List.reduceReplicate, Nat.reduceAdd, Nat.reduceSub, Nat.reduceMul, Nat.reduceLT, Nat.reduceLeDiff, Nat.reduceBEq, Nat.reduceEqDiff, dn]
    refine CallOb.pureH (fun w' hp => hwk _ w' hp) ?_
    rintro q N2 rfl
    refine ⟨?_⟩
    simp (config := { maxSteps := 4000000 }) only [↓sx0, ↓sx1, ↓sx2, ↓sx3, ↓sx4, ↓sx5, ↓sx6, sx0, sx1, sx2, sx3, sx4, sx5, sx6, tf12, ev3_hold, sxo, sxc, sxp, sxq, sxr, sxs, sxl, sxm, Int.reduceBEq, Int.reduceBNe, Int.reduceLT, Int.reduceLE, Int.reduceEq, Int.reduceGT, Int.reduceGE, Int.reduceToNat, ↓reduceIte, List.reduceReplicate, Nat.reduceAdd, Nat.reduceSub, Nat.reduceMul, Nat.reduceLT, Nat.reduceLeDiff, Nat.reduceBEq, Nat.reduceEqDiff]
  | false =>
  have hfew := hb1 rfl
  have hsm := hfew.small
  refine ⟨?_⟩
  simp (config := { maxSteps := 4000000 }) only [↓sx0, ↓sx1, ↓sx2, ↓sx3, ↓sx4, ↓sx5, ↓sx6, sx0, sx1, sx2, sx3, sx4, sx5, sx6, tf12, ev3_hold, sxo, sxc, sxp, sxq, sxr, sxs, sxl, sxm, Int.reduceBEq, Int.reduceBNe, Int.reduceLT, Int.reduceLE, Int.reduceEq, Int.reduceGT, Int.reduceGE, Int.reduceToNat, ↓reduceIte, List.reduceReplicate, Nat.reduceAdd, Nat.reduceSub, Nat.reduceMul, Nat.reduceLT, Nat.reduceLeDiff, Nat.reduceBEq, Nat.reduceEqDiff, dn]
  refine CallOb.pureH (fun w' hp => hck hsm _ w' hp) ?_
  rintro q N2 rfl
  by_cases hE : d.E = 0
  case neg =>
    have p1 : (d.E = 0) = False := eq_false hE
    refine ⟨?_⟩
    simp (config := { maxSteps := 4000000 }) only [↓sx0, ↓sx1, ↓sx2, ↓sx3, ↓sx4, ↓sx5, ↓sx6, sx0, sx1, sx2, sx3, sx4, sx5, sx6, tf12, ev3_hold, sxo, sxc, sxp, sxq, sxr, sxs, sxl, sxm, Int.reduceBEq, Int.reduceBNe, Int.reduceLT, Int.reduceLE, Int.reduceEq, Int.reduceGT, Int.reduceGE, Int.reduceToNat, ↓reduceIte, List.reduceReplicate, Nat.reduceAdd, Nat.reduceSub, Nat.reduceMul, Nat.reduceLT, Nat.reduceLeDiff, Nat.reduceBEq, Nat.reduceEqDiff, p1, dn]
    refine CallOb.pureH (fun w' hp => hwk _ w' hp) ?_
    rintro q N2 rfl
    refine ⟨?_⟩
    simp (config := { maxSteps := 4000000 }) only [↓sx0, ↓sx1, ↓sx2, ↓sx3, ↓sx4, ↓sx5, ↓sx6, sx0, sx1, sx2, sx3, sx4, sx5, sx6, tf12, ev3_hold, sxo, sxc, sxp, sxq, sxr, sxs, sxl, sxm, Int.reduceBEq, Int.reduceBNe, Int.reduceLT, Int.reduceLE, Int.reduceEq, Int.reduceGT, Int.reduceGE, Int.reduceToNat, ↓reduceIte, List.reduceReplicate, Nat.reduceAdd, Nat.reduceSub, Nat.reduceMul, Nat.reduceLT, Nat.reduceLeDiff, Nat.reduceBEq, Nat.reduceEqDiff]
  have p1 : (d.E = 0) = True := eq_true hE
  obtain ⟨hok, _, _, hm12, _⟩ := Dis.E_zero hE
  obtain ⟨h20, h6, hr6⟩ := hfew.2.2 hE
  have hm10 : d.rs.length ≤ 10 := by omega
  have hcell : ∀ n, isCellB d.c.wide d.c.high n = inB n 0 ((d.c.depth.length : Int) - 1) := fun n => by rw [isCell_iff hok]; unfold notCell; rw [Bool.not_not]
  have e1 : wr ((d.c.tide.length : Int) - 1) = (d.c.tide.length : Int) - 1 := wrap_id (by omega)
  cases htk : inB t 0 ((d.c.tide.length : Int) - 1) with
  | false =>
    refine ⟨?_⟩
    simp (config := { maxSteps := 4000000 }) only [↓sx0, ↓sx1, ↓sx2, ↓sx3, ↓sx4, ↓sx5, ↓sx6, sx0, sx1, sx2, sx3, sx4, sx5, sx6, tf12, ev3_hold, sxo, sxc, sxp, sxq, sxr, sxs, sxl, sxm, Int.reduceBEq, Int.reduceBNe, Int.reduceLT, Int.reduceLE, Int.reduceEq, Int.reduceGT, Int.reduceGE, Int.reduceToNat, ↓reduceIte, List.reduceReplicate, Nat.reduceAdd, Nat.reduceSub, Nat.reduceMul, Nat.reduceLT, Nat.reduceLeDiff, Nat.reduceBEq, Nat.reduceEqDiff, p1, hU, e1, htk, dn]
    refine CallOb.pureH (fun w' hp => hwk _ w' hp) ?_
    rintro q N9 rfl
    refine ⟨?_⟩
    simp (config := { maxSteps := 4000000 }) only [↓sx0, ↓sx1, ↓sx2, ↓sx3, ↓sx4, ↓sx5, ↓sx6, sx0, sx1, sx2, sx3, sx4, sx5, sx6, tf12, ev3_hold, sxo, sxc, sxp, sxq, sxr, sxs, sxl, sxm, Int.reduceBEq, Int.reduceBNe, Int.reduceLT, Int.reduceLE, Int.reduceEq, Int.reduceGT, Int.reduceGE, Int.reduceToNat, ↓reduceIte, List.reduceReplicate, Nat.reduceAdd, Nat.reduceSub, Nat.reduceMul, Nat.reduceLT, Nat.reduceLeDiff, Nat.reduceBEq, Nat.reduceEqDiff]
  | true =>
  cases hck2 : inB k 0 ((d.c.depth.length : Int) - 1) with
  | false =>
    refine ⟨?_⟩
    simp (config := { maxSteps := 4000000 }) only [↓sx0, ↓sx1, ↓sx2, ↓sx3, ↓sx4, ↓sx5, ↓sx6, sx0, sx1, sx2, sx3, sx4, sx5, sx6, tf12, ev3_hold, sxo, sxc, sxp, sxq, sxr, sxs, sxl, sxm, Int.reduceBEq, Int.reduceBNe, Int.reduceLT, Int.reduceLE, Int.reduceEq, Int.reduceGT, Int.reduceGE, Int.reduceToNat, ↓reduceIte, List.reduceReplicate, Nat.reduceAdd, Nat.reduceSub, Nat.reduceMul, Nat.reduceLT, Nat.reduceLeDiff, Nat.reduceBEq, Nat.reduceEqDiff, p1, hU, e1, htk, hcell, hck2, dn]
    refine CallOb.pureH (fun w' hp => hwk _ w' hp) ?_
    rintro q N9 rfl
    refine ⟨?_⟩
    simp (config := { maxSteps := 4000000 }) only [↓sx0, ↓sx1, ↓sx2, ↓sx3, ↓sx4, ↓sx5, ↓sx6, sx0, sx1, sx2, sx3, sx4, sx5, sx6, tf12, ev3_hold, sxo, sxc, sxp, sxq, sxr, sxs, sxl, sxm, Int.reduceBEq, Int.reduceBNe, Int.reduceLT, Int.reduceLE, Int.reduceEq, Int.reduceGT, Int.reduceGE, Int.reduceToNat, ↓reduceIte, List.reduceReplicate, Nat.reduceAdd, Nat.reduceSub, Nat.reduceMul, Nat.reduceLT, Nat.reduceLeDiff, Nat.reduceBEq, Nat.reduceEqDiff]
  | true =>
  have htb := (inB_iff _ _ _).1 htk
  have hkb := (inB_iff _ _ _).1 hck2
  obtain ⟨t0, rfl⟩ : ∃ t0 : Nat, t = t0 := ⟨t.toNat, by omega⟩
  obtain ⟨k0, rfl⟩ : ∃ k0 : Nat, k = k0 := ⟨k.toNat, by omega⟩
  have ht0 : t0 < d.c.tide.length := by omega
  have hk0 : k0 < d.c.depth.length := by omega
  have p2 : ((d.rs.length : Int) ≥ 12) = False := eq_false (by omega)
  have hE2 : d.E2 t0 k0 = 0 := by
    unfold Dis.E2
    rw [if_pos hE, if_pos]
    rw [htk, hck2]
    rfl
  have hE20 : d.E2 t0 0 = 0 := by
    unfold Dis.E2
    rw [if_pos hE, if_pos]
    rw [htk, Bool.true_and, inB_iff]
    omega
  have hsk := hsk hsm (fun _ => hm10) t0 k0
  have hskP : ∀ q N, StruckP d t0 k0 q N → FstQ (notC (d.strB t0 k0)) d.rs.length q N := fun q N h => by
    rcases h with ⟨h, _⟩ | ⟨_, h⟩
    · exact absurd hE2 h
    · simpa using h
  have hwh := hwh hsm t0
  unfold WhereP at hwh
  simp only [hE20, if_true] at hwh
  have hnone := Dis.str_none hE hm10 ht0 hk0
  have hless := fun y (h : fstL (notC (d.strB t0 k0)) d.rs.length = some y) (but : Int) hb => fst_less h (but := but) hb
  have hring := fun y (hy : List.Sublist y (idx d.rs.length)) but => Dis.sub_ring hE hm10 hy but ht0 hk0
  have hsubE := fun y (hy : List.Sublist y (idx d.rs.length)) but => Dis.sub_E hE hy but
  obtain ⟨P, hP⟩ : ∃ P, fstL (notC (d.strB t0 k0)) d.rs.length = P := ⟨_, rfl⟩
  have hskP : ∀ q N, StruckP d t0 k0 q N → (P = none ∧ q = .tuple #[.slice none 0 0, I 3]) ∨ ∃ x v, P = some x ∧ q = .tuple #[v, I 0] ∧ Got v 3 1 i1 x N := fun q N h => by
    rw [← hP]
    exact hskP q N h
  rw [hP] at hnone
  simp only [hP] at hless
  obtain ⟨WL, hWL⟩ : ∃ WL, d.whrL t0 = WL := ⟨_, rfl⟩
  rw [hWL] at hnone
  simp only [hWL] at hwh
  refine ⟨?_⟩
  simp (config := { maxSteps := 4000000 }) only [↓sx0, ↓sx1, ↓sx2, ↓sx3, ↓sx4, ↓sx5, ↓sx6, sx0, sx1, sx2, sx3, sx4, sx5, sx6, tf12, ev3_hold, sxo, sxc, sxp, sxq, sxr, sxs, sxl, sxm, Int.reduceBEq, Int.reduceBNe, Int.reduceLT, Int.reduceLE, Int.reduceEq, Int.reduceGT, Int.reduceGE, Int.reduceToNat, ↓reduceIte, List.reduceReplicate, Nat.reduceAdd, Nat.reduceSub, Nat.reduceMul, Nat.reduceLT, Nat.reduceLeDiff, Nat.reduceBEq, Nat.reduceEqDiff, p1, hU, e1, htk, hcell, hck2, p2, dn]
  refine CallOb.pureH (fun w' hp => hsk _ w' hp) ?_
  intro q N3 hq
  have hq := hskP q N3 hq
  have hin := fun (w' : World) (vx : Value) (hs : Sl w' vx 1 (ints (zs WL))) (hl : (zs WL).length ≤ 1000000) => in3_fn w' vx (zs WL) k0 hs hl
  have hwl : (zs WL).length ≤ 1000 := by
    rw [zs_len, ← hWL]
    exact Nat.le_trans (chpL_len _ _ _) (by omega)
  obtain ⟨fw, hfw⟩ : ∃ fw : Int, (if WL = [] then 3 else 0) = fw := ⟨_, rfl⟩
  have hfw2 : fw = 0 ∨ fw = 3 := by rw [← hfw]; split <;> simp
  simp only [hfw] at hwh
  rcases hq with ⟨hPn, rfl⟩ | ⟨y, vy, hPs, rfl, hGy⟩
  · have hmem : decide ((k0 : Int) ∈ zs WL) = true := decide_eq_true (mem_zs.2 (hnone.1 hPn))
    rw [hmem] at hin
    refine ⟨?_⟩
    simp (config := { maxSteps := 4000000 }) only [↓sx0, ↓sx1, ↓sx2, ↓sx3, ↓sx4, ↓sx5, ↓sx6, sx0, sx1, sx2, sx3, sx4, sx5, sx6, tf12, ev3_hold, sxo, sxc, sxp, sxq, sxr, sxs, sxl, sxm, Int.reduceBEq, Int.reduceBNe, Int.reduceLT, Int.reduceLE, Int.reduceEq, Int.reduceGT, Int.reduceGE, Int.reduceToNat, ↓reduceIte, List.reduceReplicate, Nat.reduceAdd, Nat.reduceSub, Nat.reduceMul, Nat.reduceLT, Nat.reduceLeDiff, Nat.reduceBEq, Nat.reduceEqDiff, dn]
    refine CallOb.pureH (fun w' hp => hwh _ w' hp) ?_
    rintro q N4 ⟨x, rfl, hGw⟩
    obtain ⟨ax, cx, rfl⟩ := hGw.shape
    refine ⟨?_⟩
    simp (config := { maxSteps := 4000000 }) only [↓sx0, ↓sx1, ↓sx2, ↓sx3, ↓sx4, ↓sx5, ↓sx6, sx0, sx1, sx2, sx3, sx4, sx5, sx6, tf12, ev3_hold, sxo, sxc, sxp, sxq, sxr, sxs, sxl, sxm, Int.reduceBEq, Int.reduceBNe, Int.reduceLT, Int.reduceLE, Int.reduceEq, Int.reduceGT, Int.reduceGE, Int.reduceToNat, ↓reduceIte, List.reduceReplicate, Nat.reduceAdd, Nat.reduceSub, Nat.reduceMul, Nat.reduceLT, Nat.reduceLeDiff, Nat.reduceBEq, Nat.reduceEqDiff]
    refine cut_constH [(57, 78)] (fun _ : Unit => [(78, .bool false)]) (fun _ H2 => H2 = []) ?_ ?_
    · rcases hfw2 with rfl | rfl
      · refine ⟨?_⟩
        simp (config := { maxSteps := 4000000 }) only [↓sx0, ↓sx1, ↓sx2, ↓sx3, ↓sx4, ↓sx5, ↓sx6, sx0, sx1, sx2, sx3, sx4, sx5, sx6, tf12, ev3_hold, sxo, sxc, sxp, sxq, sxr, sxs, sxl, sxm, Int.reduceBEq, Int.reduceBNe, Int.reduceLT, Int.reduceLE, Int.reduceEq, Int.reduceGT, Int.reduceGE, Int.reduceToNat, ↓reduceIte, List.reduceReplicate, Nat.reduceAdd, Nat.reduceSub, Nat.reduceMul, Nat.reduceLT, Nat.reduceLeDiff, Nat.reduceBEq, Nat.reduceEqDiff, dn]
        refine CallOb.pureH (fun w' hp => hin w' _ (hGw.hp (fun h hh => by simp [hh]) hp) (by omega)) ?_
        rintro q N5 rfl
        refine ⟨?_⟩
        simp (config := { maxSteps := 4000000 }) only [↓sx0, ↓sx1, ↓sx2, ↓sx3, ↓sx4, ↓sx5, ↓sx6, sx0, sx1, sx2, sx3, sx4, sx5, sx6, tf12, ev3_hold, sxo, sxc, sxp, sxq, sxr, sxs, sxl, sxm, Int.reduceBEq, Int.reduceBNe, Int.reduceLT, Int.reduceLE, Int.reduceEq, Int.reduceGT, Int.reduceGE, Int.reduceToNat, ↓reduceIte, List.reduceReplicate, Nat.reduceAdd, Nat.reduceSub, Nat.reduceMul, Nat.reduceLT, Nat.reduceLeDiff, Nat.reduceBEq, Nat.reduceEqDiff]
        exact ⟨(), _, HImp.nil _ _, rfl⟩
      · refine ⟨?_⟩
        simp (config := { maxSteps := 4000000 }) only [↓sx0, ↓sx1, ↓sx2, ↓sx3, ↓sx4, ↓sx5, ↓sx6, sx0, sx1, sx2, sx3, sx4, sx5, sx6, tf12, ev3_hold, sxo, sxc, sxp, sxq, sxr, sxs, sxl, sxm, Int.reduceBEq, Int.reduceBNe, Int.reduceLT, Int.reduceLE, Int.reduceEq, Int.reduceGT, Int.reduceGE, Int.reduceToNat, ↓reduceIte, List.reduceReplicate, Nat.reduceAdd, Nat.reduceSub, Nat.reduceMul, Nat.reduceLT, Nat.reduceLeDiff, Nat.reduceBEq, Nat.reduceEqDiff, dn]
        refine CallOb.pureH (fun w' hp => hin w' _ (hGw.hp (fun h hh => by simp [hh]) hp) (by omega)) ?_
        rintro q N5 rfl
        refine ⟨?_⟩
        simp (config := { maxSteps := 4000000 }) only [↓sx0, ↓sx1, ↓sx2, ↓sx3, ↓sx4, ↓sx5, ↓sx6, sx0, sx1, sx2, sx3, sx4, sx5, sx6, tf12, ev3_hold, sxo, sxc, sxp, sxq, sxr, sxs, sxl, sxm, Int.reduceBEq, Int.reduceBNe, Int.reduceLT, Int.reduceLE, Int.reduceEq, Int.reduceGT, Int.reduceGE, Int.reduceToNat, ↓reduceIte, List.reduceReplicate, Nat.reduceAdd, Nat.reduceSub, Nat.reduceMul, Nat.reduceLT, Nat.reduceLeDiff, Nat.reduceBEq, Nat.reduceEqDiff]
        exact ⟨(), _, HImp.nil _ _, rfl⟩
    rintro _ H2 g2 rfl
    refine ⟨?_⟩
    simp (config := { maxSteps := 4000000 }) only [↓sx0, ↓sx1, ↓sx2, ↓sx3, ↓sx4, ↓sx5, ↓sx6, sx0, sx1, sx2, sx3, sx4, sx5, sx6, tf12, ev3_hold, sxo, sxc, sxp, sxq, sxr, sxs, sxl, sxm, Int.reduceBEq, Int.reduceBNe, Int.reduceLT, Int.reduceLE, Int.reduceEq, Int.reduceGT, Int.reduceGE, Int.reduceToNat, ↓reduceIte, List.reduceReplicate, Nat.reduceAdd, Nat.reduceSub, Nat.reduceMul, Nat.reduceLT, Nat.reduceLeDiff, Nat.reduceBEq, Nat.reduceEqDiff]
    refine loop_constH [] (HImp.nil _ _) [(6, 6), (11, 15), (79, 124)] (fun _ : Unit => [(11, I (-1))]) (fun _ H1 => H1 = []) (fun _ => 0) () ?_ rfl ?_
    · simp (config := { maxSteps := 4000000 }) only [↓sx0, ↓sx1, ↓sx2, ↓sx3, ↓sx4, ↓sx5, ↓sx6, sx0, sx1, sx2, sx3, sx4, sx5, sx6, tf12, ev3_hold, sxo, sxc, sxp, sxq, sxr, sxs, sxl, sxm, Int.reduceBEq, Int.reduceBNe, Int.reduceLT, Int.reduceLE, Int.reduceEq, Int.reduceGT, Int.reduceGE, Int.reduceToNat, ↓reduceIte, List.reduceReplicate, Nat.reduceAdd, Nat.reduceSub, Nat.reduceMul, Nat.reduceLT, Nat.reduceLeDiff, Nat.reduceBEq, Nat.reduceEqDiff]
      try simp
    rintro _ H1 g1 rfl
    refine ⟨?_⟩
    simp (config := { maxSteps := 4000000 }) only [↓sx0, ↓sx1, ↓sx2, ↓sx3, ↓sx4, ↓sx5, ↓sx6, sx0, sx1, sx2, sx3, sx4, sx5, sx6, tf12, ev3_hold, sxo, sxc, sxp, sxq, sxr, sxs, sxl, sxm, Int.reduceBEq, Int.reduceBNe, Int.reduceLT, Int.reduceLE, Int.reduceEq, Int.reduceGT, Int.reduceGE, Int.reduceToNat, ↓reduceIte, List.reduceReplicate, Nat.reduceAdd, Nat.reduceSub, Nat.reduceMul, Nat.reduceLT, Nat.reduceLeDiff, Nat.reduceBEq, Nat.reduceEqDiff, dn]
    refine CallOb.pureH (fun w' hp => hwk _ w' hp) ?_
    rintro q N9 rfl
    refine ⟨?_⟩
    simp (config := { maxSteps := 4000000 }) only [↓sx0, ↓sx1, ↓sx2, ↓sx3, ↓sx4, ↓sx5, ↓sx6, sx0, sx1, sx2, sx3, sx4, sx5, sx6, tf12, ev3_hold, sxo, sxc, sxp, sxq, sxr, sxs, sxl, sxm, Int.reduceBEq, Int.reduceBNe, Int.reduceLT, Int.reduceLE, Int.reduceEq, Int.reduceGT, Int.reduceGE, Int.reduceToNat, ↓reduceIte, List.reduceReplicate, Nat.reduceAdd, Nat.reduceSub, Nat.reduceMul, Nat.reduceLT, Nat.reduceLeDiff, Nat.reduceBEq, Nat.reduceEqDiff]
  have hmem : decide ((k0 : Int) ∈ zs WL) = false := decide_eq_false fun h => by
    rw [hnone.2 (mem_zs.1 h)] at hPs
    cases hPs
  rw [hmem] at hin
  have hys := (hless y hPs (-1) (by omega)).1
  have hyl := sub_len hys
  have hyl2 : y.length ≤ 10 := by omega
  obtain ⟨ay, cy, rfl⟩ := hGy.shape
  have hN3 : ∀ h ∈ N3, h ∈ N3 ++ (N2 ++ N) := fun h hh => List.mem_append_left _ hh
  have hasc := sub_asc hys
  have hon := fun (but : Int) hb => hon hfew (.slice ay y.length cy) y (by omega) hasc but hb
  have hsubs : ∀ but, ((d.sub y but).plus (ring0 t0 k0)).small := fun but => by
    refine ⟨few_small hfew.1, ?_⟩
    show (onlyR d y but y.length ++ [ring0 t0 k0]).length ≤ 20
    have := onlyR_len d y but y.length
    rw [List.length_append, List.length_singleton]
    omega
  have hcoP : ∀ but q N, CourseP ((d.sub y but).plus (ring0 t0 k0)) q N → (-1 ≤ but ∧ but < y.length) → ∃ x, q = .tuple #[x, I (if 0 ≤ but then 0 else 3)] := fun but q N h hb => by
    obtain ⟨x, rfl, _⟩ := h
    obtain ⟨k1, k2⟩ := hring y hys but
    have k3 := (hless y hPs but hb).2
    refine ⟨x, ?_⟩
    rw [if_pos k1]
    by_cases h0 : 0 ≤ but
    · rw [decide_eq_true h0] at k3
      rw [if_pos (k2.2 k3), if_pos h0]
    · rw [decide_eq_false h0] at k3
      rw [if_neg (fun h => by rw [k2.1 h] at k3; cases k3), if_neg h0]
  refine ⟨?_⟩
  simp (config := { maxSteps := 4000000 }) only [↓sx0, ↓sx1, ↓sx2, ↓sx3, ↓sx4, ↓sx5, ↓sx6, sx0, sx1, sx2, sx3, sx4, sx5, sx6, tf12, ev3_hold, sxo, sxc, sxp, sxq, sxr, sxs, sxl, sxm, Int.reduceBEq, Int.reduceBNe, Int.reduceLT, Int.reduceLE, Int.reduceEq, Int.reduceGT, Int.reduceGE, Int.reduceToNat, ↓reduceIte, List.reduceReplicate, Nat.reduceAdd, Nat.reduceSub, Nat.reduceMul, Nat.reduceLT, Nat.reduceLeDiff, Nat.reduceBEq, Nat.reduceEqDiff, dn]
  refine CallOb.pureH (fun w' hp => hwh _ w' hp) ?_
  rintro q N4 ⟨x, rfl, hGw⟩
  obtain ⟨ax, cx, rfl⟩ := hGw.shape
  obtain ⟨K, hK⟩ : ∃ K, N4 ++ (N3 ++ (N2 ++ N)) = K := ⟨_, rfl⟩
  have hGy := hGy.mono (N' := K) (fun h hh => by rw [← hK]; simp [hh])
  have hGw := hGw.mono (N' := K) (fun h hh => by rw [← hK]; simp [hh])
  rw [hK]
  refine ⟨?_⟩
  simp (config := { maxSteps := 4000000 }) only [↓sx0, ↓sx1, ↓sx2, ↓sx3, ↓sx4, ↓sx5, ↓sx6, sx0, sx1, sx2, sx3, sx4, sx5, sx6, tf12, ev3_hold, sxo, sxc, sxp, sxq, sxr, sxs, sxl, sxm, Int.reduceBEq, Int.reduceBNe, Int.reduceLT, Int.reduceLE, Int.reduceEq, Int.reduceGT, Int.reduceGE, Int.reduceToNat, ↓reduceIte, List.reduceReplicate, Nat.reduceAdd, Nat.reduceSub, Nat.reduceMul, Nat.reduceLT, Nat.reduceLeDiff, Nat.reduceBEq, Nat.reduceEqDiff]
  refine cut_constH [(57, 78)] (fun _ : Unit => [(78, .bool false)]) (fun _ H2 => H2 = K) ?_ ?_
  · rcases hfw2 with rfl | rfl
    · refine ⟨?_⟩
      simp (config := { maxSteps := 4000000 }) only [↓sx0, ↓sx1, ↓sx2, ↓sx3, ↓sx4, ↓sx5, ↓sx6, sx0, sx1, sx2, sx3, sx4, sx5, sx6, tf12, ev3_hold, sxo, sxc, sxp, sxq, sxr, sxs, sxl, sxm, Int.reduceBEq, Int.reduceBNe, Int.reduceLT, Int.reduceLE, Int.reduceEq, Int.reduceGT, Int.reduceGE, Int.reduceToNat, ↓reduceIte, List.reduceReplicate, Nat.reduceAdd, Nat.reduceSub, Nat.reduceMul, Nat.reduceLT, Nat.reduceLeDiff, Nat.reduceBEq, Nat.reduceEqDiff, dn]
      refine CallOb.pureH (fun w' hp => hin w' _ (hGw.hp (fun h hh => hh) hp) (by omega)) ?_
      rintro q N5 rfl
      refine ⟨?_⟩
      simp (config := { maxSteps := 4000000 }) only [↓sx0, ↓sx1, ↓sx2, ↓sx3, ↓sx4, ↓sx5, ↓sx6, sx0, sx1, sx2, sx3, sx4, sx5, sx6, tf12, ev3_hold, sxo, sxc, sxp, sxq, sxr, sxs, sxl, sxm, Int.reduceBEq, Int.reduceBNe, Int.reduceLT, Int.reduceLE, Int.reduceEq, Int.reduceGT, Int.reduceGE, Int.reduceToNat, ↓reduceIte, List.reduceReplicate, Nat.reduceAdd, Nat.reduceSub, Nat.reduceMul, Nat.reduceLT, Nat.reduceLeDiff, Nat.reduceBEq, Nat.reduceEqDiff]
      exact ⟨(), _, HImp.app _ _ _, rfl⟩
    · refine ⟨?_⟩
      simp (config := { maxSteps := 4000000 }) only [↓sx0, ↓sx1, ↓sx2, ↓sx3, ↓sx4, ↓sx5, ↓sx6, sx0, sx1, sx2, sx3, sx4, sx5, sx6, tf12, ev3_hold, sxo, sxc, sxp, sxq, sxr, sxs, sxl, sxm, Int.reduceBEq, Int.reduceBNe, Int.reduceLT, Int.reduceLE, Int.reduceEq, Int.reduceGT, Int.reduceGE, Int.reduceToNat, ↓reduceIte, List.reduceReplicate, Nat.reduceAdd, Nat.reduceSub, Nat.reduceMul, Nat.reduceLT, Nat.reduceLeDiff, Nat.reduceBEq, Nat.reduceEqDiff, dn]
      refine CallOb.pureH (fun w' hp => hin w' _ (hGw.hp (fun h hh => hh) hp) (by omega)) ?_
      rintro q N5 rfl
      refine ⟨?_⟩
      simp (config := { maxSteps := 4000000 }) only [↓sx0, ↓sx1, ↓sx2, ↓sx3, ↓sx4, ↓sx5, ↓sx6, sx0, sx1, sx2, sx3, sx4, sx5, sx6, tf12, ev3_hold, sxo, sxc, sxp, sxq, sxr, sxs, sxl, sxm, Int.reduceBEq, Int.reduceBNe, Int.reduceLT, Int.reduceLE, Int.reduceEq, Int.reduceGT, Int.reduceGE, Int.reduceToNat, ↓reduceIte, List.reduceReplicate, Nat.reduceAdd, Nat.reduceSub, Nat.reduceMul, Nat.reduceLT, Nat.reduceLeDiff, Nat.reduceBEq, Nat.reduceEqDiff]
      exact ⟨(), _, HImp.app _ _ _, rfl⟩
  rintro _ H2 g2 rfl
  have hdrop : ∀ (X Y : List HO) (r : HO), HImp ⟨w, fun _ => False⟩ (X ++ r :: (Y ++ H2)) H2 := fun X Y r => HImp.sub ((List.sublist_append_right Y H2).trans ((List.sublist_cons_self r _).trans (List.sublist_append_right X _)))
  refine ⟨?_⟩
  simp (config := { maxSteps := 4000000 }) only [↓sx0, ↓sx1, ↓sx2, ↓sx3, ↓sx4, ↓sx5, ↓sx6, sx0, sx1, sx2, sx3, sx4, sx5, sx6, tf12, ev3_hold, sxo, sxc, sxp, sxq, sxr, sxs, sxl, sxm, Int.reduceBEq, Int.reduceBNe, Int.reduceLT, Int.reduceLE, Int.reduceEq, Int.reduceGT, Int.reduceGE, Int.reduceToNat, ↓reduceIte, List.reduceReplicate, Nat.reduceAdd, Nat.reduceSub, Nat.reduceMul, Nat.reduceLT, Nat.reduceLeDiff, Nat.reduceBEq, Nat.reduceEqDiff]
  refine loop_constH H2 (HImp.refl _ _) [(6, 6), (11, 15), (79, 124)] (fun b : Nat => [(11, I ((b : Int) - 1))]) (fun b H1 => b ≤ y.length + 1 ∧ H1 = H2) (fun b => y.length + 1 - b) 0 ?_ ⟨Nat.zero_le _, rfl⟩ ?_
  · simp (config := { maxSteps := 4000000 }) only [↓sx0, ↓sx1, ↓sx2, ↓sx3, ↓sx4, ↓sx5, ↓sx6, sx0, sx1, sx2, sx3, sx4, sx5, sx6, tf12, ev3_hold, sxo, sxc, sxp, sxq, sxr, sxs, sxl, sxm, Int.reduceBEq, Int.reduceBNe, Int.reduceLT, Int.reduceLE, Int.reduceEq, Int.reduceGT, Int.reduceGE, Int.reduceToNat, ↓reduceIte, List.reduceReplicate, Nat.reduceAdd, Nat.reduceSub, Nat.reduceMul, Nat.reduceLT, Nat.reduceLeDiff, Nat.reduceBEq, Nat.reduceEqDiff]
    try simp
  rintro b H1 g1 ⟨hb0, rfl⟩
  by_cases hbe : b = y.length + 1
  · have e7 : ((b : Int) - 1 < (y.length : Int)) = False := eq_false (by omega)
    refine ⟨?_⟩
    simp (config := { maxSteps := 4000000 }) only [↓sx0, ↓sx1, ↓sx2, ↓sx3, ↓sx4, ↓sx5, ↓sx6, sx0, sx1, sx2, sx3, sx4, sx5, sx6, tf12, ev3_hold, sxo, sxc, sxp, sxq, sxr, sxs, sxl, sxm, Int.reduceBEq, Int.reduceBNe, Int.reduceLT, Int.reduceLE, Int.reduceEq, Int.reduceGT, Int.reduceGE, Int.reduceToNat, ↓reduceIte, List.reduceReplicate, Nat.reduceAdd, Nat.reduceSub, Nat.reduceMul, Nat.reduceLT, Nat.reduceLeDiff, Nat.reduceBEq, Nat.reduceEqDiff, e7, dn]
    refine CallOb.pureH (fun w' hp => hwk _ w' hp) ?_
    rintro q N9 rfl
    refine ⟨?_⟩
    simp (config := { maxSteps := 4000000 }) only [↓sx0, ↓sx1, ↓sx2, ↓sx3, ↓sx4, ↓sx5, ↓sx6, sx0, sx1, sx2, sx3, sx4, sx5, sx6, tf12, ev3_hold, sxo, sxc, sxp, sxq, sxr, sxs, sxl, sxm, Int.reduceBEq, Int.reduceBNe, Int.reduceLT, Int.reduceLE, Int.reduceEq, Int.reduceGT, Int.reduceGE, Int.reduceToNat, ↓reduceIte, List.reduceReplicate, Nat.reduceAdd, Nat.reduceSub, Nat.reduceMul, Nat.reduceLT, Nat.reduceLeDiff, Nat.reduceBEq, Nat.reduceEqDiff]
  have e7 : ((b : Int) - 1 < (y.length : Int)) = True := eq_true (by omega)
  have e8 : wr ((b : Int) - 1 + 1) = ((b + 1 : Nat) : Int) - 1 := (wrap_id (by omega)).trans (by omega)
  obtain ⟨but, hbut⟩ : ∃ but : Int, (b : Int) - 1 = but := ⟨_, rfl⟩
  rw [hbut] at e7 e8
  have hon := hon but (by omega)
  have hcob := hcoP but
  have hco := hco _ (hsubs but)
  obtain ⟨SB, hSB⟩ : ∃ SB, d.sub y but = SB := ⟨_, rfl⟩
  have hSBe : (⟨d.c, d.dr, d.pc, onlyR d y but y.length⟩ : Dis) = SB := hSB
  rw [hSBe] at hon
  rw [hSB] at hcob hco
  have hSBc : SB.c = d.c ∧ SB.dr = d.dr ∧ SB.pc = d.pc ∧ SB.rs.length ≤ 10 := by
    rw [← hSB]
    exact ⟨rfl, rfl, rfl, by have := onlyR_len d y but y.length; show (onlyR d y but y.length).length ≤ 10; omega⟩
  refine ⟨?_⟩
  simp (config := { maxSteps := 4000000 }) only [↓sx0, ↓sx1, ↓sx2, ↓sx3, ↓sx4, ↓sx5, ↓sx6, sx0, sx1, sx2, sx3, sx4, sx5, sx6, tf12, ev3_hold, sxo, sxc, sxp, sxq, sxr, sxs, sxl, sxm, Int.reduceBEq, Int.reduceBNe, Int.reduceLT, Int.reduceLE, Int.reduceEq, Int.reduceGT, Int.reduceGE, Int.reduceToNat, ↓reduceIte, List.reduceReplicate, Nat.reduceAdd, Nat.reduceSub, Nat.reduceMul, Nat.reduceLT, Nat.reduceLeDiff, Nat.reduceBEq, Nat.reduceEqDiff, hbut, e7, dn]
  refine CallOb.pureH (fun w' hp => hon _ w' hp (hGy.hp (fun h hh => hh) hp)) ?_
  rintro q N6 ⟨v', rfl, hDN⟩
  obtain ⟨aq1, cq1, aq2, cq2, aq3, cq3, ad, cp, A, rfl, hA1, hA2⟩ := DsN.more (w0 := ⟨w, fun _ => False⟩) hDN
  obtain ⟨f1, f2, f3, f4⟩ := hSBc
  refine ⟨?_⟩
  simp (config := { maxSteps := 4000000 }) only [↓sx0, ↓sx1, ↓sx2, ↓sx3, ↓sx4, ↓sx5, ↓sx6, sx0, sx1, sx2, sx3, sx4, sx5, sx6, tf12, ev3_hold, sxo, sxc, sxp, sxq, sxr, sxs, sxl, sxm, Int.reduceBEq, Int.reduceBNe, Int.reduceLT, Int.reduceLE, Int.reduceEq, Int.reduceGT, Int.reduceGE, Int.reduceToNat, ↓reduceIte, List.reduceReplicate, Nat.reduceAdd, Nat.reduceSub, Nat.reduceMul, Nat.reduceLT, Nat.reduceLeDiff, Nat.reduceBEq, Nat.reduceEqDiff]
  intro b7
  refine app_one (f := rpc) (l := SB.rs) (ring0 t0 k0) (hA1 [] H1) rpc_len rpc_one (by omega) fun ad8 c8 => ?_
  have hQ : ∀ (H : List HO) (w' : World), HO.row (.slice (some ad8) (SB.rs.length + 1) c8) 47 9 (cat rpc (SB.rs ++ [ring0 t0 k0])) ∈ H → (∀ h ∈ A, h ∈ H) → Hp ⟨w, fun _ => False⟩ H w' → DsOk w' (.agg #[I SB.c.wide, I SB.c.high, .slice aq1 SB.c.depth.length cq1, .slice aq2 SB.c.tide.length cq2, .slice aq3 SB.c.swell.length cq3, I SB.dr, I SB.pc, .slice (some ad8) (SB.rs.length + 1) c8]) (SB.plus (ring0 t0 k0)) := fun H w' h1 h2 hp => by
    have h3 := hA2 (.slice (some ad8) (SB.rs.length + 1) c8) (SB.rs ++ [ring0 t0 k0]) H ⟨some ad8, c8, by rw [List.length_append]; rfl, (fun h => by cases h), by rw [List.length_append]; exact h1⟩ h2
    exact h3.ok (fun h hh => hh) hp
  simp (config := { maxSteps := 4000000 }) only [↓sx0, ↓sx1, ↓sx2, ↓sx3, ↓sx4, ↓sx5, ↓sx6, sx0, sx1, sx2, sx3, sx4, sx5, sx6, tf12, ev3_hold, sxo, sxc, sxp, sxq, sxr, sxs, sxl, sxm, Int.reduceBEq, Int.reduceBNe, Int.reduceLT, Int.reduceLE, Int.reduceEq, Int.reduceGT, Int.reduceGE, Int.reduceToNat, ↓reduceIte, List.reduceReplicate, Nat.reduceAdd, Nat.reduceSub, Nat.reduceMul, Nat.reduceLT, Nat.reduceLeDiff, Nat.reduceBEq, Nat.reduceEqDiff, dn]
  refine CallOb.pureH (fun w' hp => hco _ w' (hW2 _ w' hp) (hQ _ w' List.mem_cons_self (fun h hh => by simp [hh]) hp)) ?_
  intro q N7 hq
  obtain ⟨xc, rfl⟩ := hcob q N7 hq (by omega)
  by_cases h0 : 0 ≤ but
  · have q1 : (but < 0) = False := eq_false (by omega)
    have q2 : (but ≥ 0) = True := eq_true h0
    rw [if_pos h0]
    refine ⟨?_⟩
    simp (config := { maxSteps := 4000000 }) only [↓sx0, ↓sx1, ↓sx2, ↓sx3, ↓sx4, ↓sx5, ↓sx6, sx0, sx1, sx2, sx3, sx4, sx5, sx6, tf12, ev3_hold, sxo, sxc, sxp, sxq, sxr, sxs, sxl, sxm, Int.reduceBEq, Int.reduceBNe, Int.reduceLT, Int.reduceLE, Int.reduceEq, Int.reduceGT, Int.reduceGE, Int.reduceToNat, ↓reduceIte, List.reduceReplicate, Nat.reduceAdd, Nat.reduceSub, Nat.reduceMul, Nat.reduceLT, Nat.reduceLeDiff, Nat.reduceBEq, Nat.reduceEqDiff, hbut, q1, q2, e8]
    exact ⟨b + 1, _, rfl, hdrop _ _ _, ⟨by omega, rfl⟩, by omega⟩
  · have q1 : (but < 0) = True := eq_true (by omega)
    have q2 : (but ≥ 0) = False := eq_false h0
    rw [if_neg h0]
    refine ⟨?_⟩
    simp (config := { maxSteps := 4000000 }) only [↓sx0, ↓sx1, ↓sx2, ↓sx3, ↓sx4, ↓sx5, ↓sx6, sx0, sx1, sx2, sx3, sx4, sx5, sx6, tf12, ev3_hold, sxo, sxc, sxp, sxq, sxr, sxs, sxl, sxm, Int.reduceBEq, Int.reduceBNe, Int.reduceLT, Int.reduceLE, Int.reduceEq, Int.reduceGT, Int.reduceGE, Int.reduceToNat, ↓reduceIte, List.reduceReplicate, Nat.reduceAdd, Nat.reduceSub, Nat.reduceMul, Nat.reduceLT, Nat.reduceLeDiff, Nat.reduceBEq, Nat.reduceEqDiff, hbut, q1, q2, e8]
    exact ⟨b + 1, _, rfl, hdrop _ _ _, ⟨by omega, rfl⟩, by omega⟩
end Go.Proofs.YtaloedccoadedaaDoor
