/- A part of a proof: the symbolic walk and what it shows of single functions. -/
import Derived.Test.YtaloedccoadedaaDoorSuG
import Derived.Test.YtaloedccoadedaaDoorSuC2
set_option linter.all false
namespace Go.Proofs.YtaloedccoadedaaDoor
open Go.RowKit Go.SX
set_option maxRecDepth 20000
set_option maxHeartbeats 0
set_option linter.unusedSimpArgs false
set_option linter.unusedVariables false
theorem Dis.dbt_course {d : Dis} (hE : d.E = 0) (M : List Nat) : (d.crs d.pDbt).Course M ↔ d.way M ∧ d.posB M d.rs.length = true := by
  rw [Dis.course_iff hE (Dis.pDbt_ok hE), Dis.posB_iff]
  obtain ⟨_, _, _, _, hr⟩ := Dis.E_zero hE
  refine and_congr Iff.rfl (forall_congr' fun i => forall_congr' fun hi => ?_)
  have hw := wgt_bd ((repB_iff _ _).1 (hr _ (Dis.rep_mem hi).1)).2.2
  unfold Dis.pDbt
  cases hs : (d.rep i).sure with
  | true => exact ⟨fun h _ => h rfl, fun h _ => h rfl⟩
  | false =>
    refine ⟨fun _ h => (by cases h), fun _ h => ?_⟩
    simp only [Bool.false_eq_true, if_false] at h
    unfold NV at h
    omega
theorem Dis.dbt_tot {d : Dis} (hE : d.E = 0) {M : List Nat} (h : (d.crs d.pDbt).Course M) : (d.crs d.pDbt).tot 0 M = d.dSum M d.rs.length := by
  rw [Dis.tot_is hE (Dis.pDbt_ok hE) h]
  have hp := (Dis.posB_iff _).1 ((Dis.dbt_course hE M).1 h).2
  refine sumN_congr fun i hi => ?_
  show (if d.tB M i = true then (0 : Int) else d.pDbt i) = if d.tB M i = true then 0 else (d.rep i).weight
  by_cases ht : d.tB M i = true
  · rw [if_pos ht, if_pos ht]
  · rw [if_neg ht, if_neg ht]
    unfold Dis.pDbt
    cases hs : (d.rep i).sure with
    | true => exact absurd (hp i hi hs) ht
    | false => rfl
theorem Dis.dbt_all {d : Dis} (hE : d.E = 0) {M : List Nat} : ((d.crs d.pDbt).Course M ∧ (d.crs d.pDbt).tot 0 M ≤ 0) ↔ d.way M ∧ ∀ i, i < d.rs.length → d.tru i M := by
  constructor
  · rintro ⟨h1, h2⟩
    rw [Dis.dbt_tot hE h1] at h2
    obtain ⟨h3, h4⟩ := (Dis.dbt_course hE M).1 h1
    have := dSum_bd hE M d.rs.length (Nat.le_refl _)
    exact ⟨h3, Dis.all_of_zero hE (by omega) h4⟩
  · rintro ⟨h1, h2⟩
    obtain ⟨h3, h4⟩ := Dis.dbt_zero h2
    have h5 := (Dis.dbt_course hE M).2 ⟨h1, h4⟩
    exact ⟨h5, by rw [Dis.dbt_tot hE h5, h3]; exact Int.le_refl _⟩
theorem Dis.mem_wth {d : Dis} (hE : d.E = 0) {t x : Nat} (ht : t < d.c.tide.length) {n : Int} (hn : n < NV) : x ∈ d.wthL t n ↔ ∃ M, (d.crs d.pDbt).Course M ∧ M.getD t 0 = x ∧ (d.crs d.pDbt).tot 0 M ≤ n := by
  have hgo := Dis.crs_ok hE (Dis.pDbt_ok hE)
  unfold Dis.wthL
  rw [mem_chpL, Int.toNat_natCast]
  constructor
  · rintro ⟨h1, h2⟩
    exact (Crs.thr_iff hgo (t := t) (x := x) ht h1 hn).1 h2
  · rintro ⟨M, h1, rfl, h2⟩
    have hx := Dis.few_x ((Dis.dbt_course hE M).1 h1).1 ht
    exact ⟨hx, (Crs.thr_iff hgo ht hx hn).2 ⟨M, h1, rfl, h2⟩⟩
theorem Dis.wth_zero {d : Dis} (hE : d.E = 0) {t : Nat} (ht : t < d.c.tide.length) : d.wthL t 0 = d.whrL t := by
  have hgo := Dis.crs_ok hE (Dis.pDbt_ok hE)
  have hgo2 := Dis.crs_ok hE pAll_ok
  have h1 := fun x => Dis.mem_wth hE (x := x) ht (n := 0) (by decide)
  have h2 := fun x => Dis.mem_whr hE (x := x) ht
  have h3 : ∀ x, x ∈ d.wthL t 0 ↔ x ∈ d.whrL t := fun x => by
    rw [h1, h2]
    refine exists_congr fun M => ?_
    constructor
    · rintro ⟨a, b, c⟩
      obtain ⟨e, f⟩ := (Dis.dbt_all hE).1 ⟨a, c⟩
      exact ⟨⟨e, b⟩, f⟩
    · rintro ⟨⟨e, b⟩, f⟩
      obtain ⟨a, c⟩ := (Dis.dbt_all hE).2 ⟨e, f⟩
      exact ⟨a, b, c⟩
  unfold Dis.wthL Dis.whrL chpL at h3 ⊢
  refine List.filter_congr fun x hx => ?_
  have h4 := h3 x
  rw [List.mem_filter, List.mem_filter] at h4
  rw [Bool.eq_iff_iff]
  exact ⟨fun h => (h4.1 ⟨hx, h⟩).2, fun h => (h4.2 ⟨hx, h⟩).2⟩
theorem Dis.whr_nil {d : Dis} (hE : d.E = 0) {t : Nat} (ht : t < d.c.tide.length) : d.whrL t = [] ↔ ¬ ∃ M, d.way M ∧ ∀ i, i < d.rs.length → d.tru i M := by
  constructor
  · rintro h ⟨M, h1, h2⟩
    have := (Dis.mem_whr hE (x := M.getD t 0) ht).2 ⟨M, ⟨h1, rfl⟩, h2⟩
    rw [h] at this
    cases this
  · intro h
    refine List.eq_nil_iff_forall_not_mem.2 fun x hx => ?_
    obtain ⟨M, ⟨h1, _⟩, h2⟩ := (Dis.mem_whr hE ht).1 hx
    exact h ⟨M, h1, h2⟩
theorem Dis.dbt_first {d : Dis} (hE : d.E = 0) (h : (d.crs d.pDbt).least < NV) : d.way (d.crs d.pDbt).first ∧ d.posB (d.crs d.pDbt).first d.rs.length = true ∧ d.dSum (d.crs d.pDbt).first d.rs.length = (d.crs d.pDbt).least := by
  obtain ⟨h1, h2, _⟩ := Crs.first_ok (Dis.crs_ok hE (Dis.pDbt_ok hE)) h
  obtain ⟨h3, h4⟩ := (Dis.dbt_course hE _).1 h1
  exact ⟨h3, h4, by rw [← Dis.dbt_tot hE h1]; exact h2⟩
theorem Dis.dbt_none {d : Dis} (hE : d.E = 0) : ((d.crs d.pDbt).least < NV ∧ (d.crs d.pDbt).least = 0) ↔ ∃ M, d.way M ∧ ∀ i, i < d.rs.length → d.tru i M := by
  have hgo := Dis.crs_ok hE (Dis.pDbt_ok hE)
  constructor
  · rintro ⟨h1, h2⟩
    obtain ⟨h3, h4, h5⟩ := Dis.dbt_first hE h1
    exact ⟨_, h3, Dis.all_of_zero hE (by rw [h5, h2]) h4⟩
  · rintro ⟨M, h1, h2⟩
    obtain ⟨a, c⟩ := (Dis.dbt_all hE).2 ⟨h1, h2⟩
    have h3 := Crs.least_le hgo a
    have h4 := (least_zero hE (Dis.pDbt_ok hE)).1
    have : (0 : Int) < NV := by decide
    omega
theorem fixesLeast_fn (w : World) (hw : Ways w) (hb : Deb w) (v : Value) (d : Dis) (hd : DsOk w v d) (vl : Value) (L : List Int) (hL : Sl w vl 1 (ints L)) (t more : Int) : SX.Fn Tryd.prog 11 [v, vl, .agg #[I t, I more]] w (fun _ => False) fun q N => q = .bool true := by
  have hL0 := hL
  obtain ⟨aL, nL, cL, rfl⟩ := hL.shape
  have hnL := hL.le i1_len (by omega)
  subst hnL
  have hrL := fun H => hL.rd0 H
  have hd0 := hd
  have hwk := fun (H : List HO) w' (hp : Hp ⟨w, fun _ => False⟩ H w') => works3_fn w' (hw.hp hp) (hb.hp hp)
  have hva := fun (H : List HO) w' (hp : Hp ⟨w, fun _ => False⟩ H w') => vague_fn w' (hw.hp hp) v d (hd0.hp hp)
  have hck := fun (hs : d.small) (H : List HO) w' (hp : Hp ⟨w, fun _ => False⟩ H w') => rcheck3_fn w' (hw.hp hp) v d (hd0.hp hp) hs
  have hwh := fun (hs : d.small) (t : Int) (H : List HO) w' (hp : Hp ⟨w, fun _ => False⟩ H w') => where_fn w' (hw.hp hp) v d (hd0.hp hp) hs t
  have hcd := fun (hs : d.small) (H : List HO) w' (hp : Hp ⟨w, fun _ => False⟩ H w') => course_fn w' (hw.hp hp) v d (hd0.hp hp) hs
  have hcf := fun (hs : d.small) (h10 : d.E = 0 → d.rs.length ≤ 10) (H : List HO) w' (hp : Hp ⟨w, fun _ => False⟩ H w') => conflict_fn w' (hw.hp hp) (hb.hp hp) v d (hd0.hp hp) hs h10
  have hsk := fun (hs : d.small) (h10 : d.E = 0 → d.rs.length ≤ 10) (t k : Int) (H : List HO) w' (hp : Hp ⟨w, fun _ => False⟩ H w') => struck_fn w' (hw.hp hp) (hb.hp hp) v d (hd0.hp hp) hs h10 t k
  have hon := fun (hf : d.few) (vl : Value) (L : List Int) (hLl : L.length ≤ 1000) (ha : ascB d.rs.length L) (but : Int) (hbut : -1 ≤ but ∧ but ≤ 1000) (H : List HO) w' (hp : Hp ⟨w, fun _ => False⟩ H w') (hL : Sl w' vl 1 (ints L)) => only_fn w' v vl d (hd0.hp hp) hf L hL hLl ha but hbut
  have hco := fun (q : Dis) (hs : q.small) (v' : Value) (w' : World) (hp : Ways w') (h : DsOk w' v' q) => course_fn w' hp v' q h hs
  have hdo := fun (hs : d.small) (H : List HO) w' (hp : Hp ⟨w, fun _ => False⟩ H w') => doubt3_fn w' (hw.hp hp) v d (hd0.hp hp) hs
  have hwi := fun (hs : d.small) (t n : Int) (H : List HO) w' (hp : Hp ⟨w, fun _ => False⟩ H w') => within4_fn w' (hw.hp hp) v d (hd0.hp hp) hs t n
  have hdb := fun (hE : d.E = 0) (vc : Value) (L : List Int) (H : List HO) w' (hp : Hp ⟨w, fun _ => False⟩ H w') (hL : Sl w' vc 1 (ints L)) => doubted_any w' (hw.hp hp) v vc d (hd0.hp hp) hE L hL
  have hW2 : ∀ (H : List HO) (w' : World), Hp ⟨w, fun _ => False⟩ H w' → Ways w' := fun H w' hp => hw.hp hp
  obtain ⟨sD, sT, sS, sR, rfl, hc, hsR⟩ := hd
  have hD := detR_ok (X := fun _ => False) hw hc (fun _ _ => id)
  obtain ⟨_, _, _, hh, hsD, hsT, hsS⟩ := hc
  cases hh
  obtain ⟨aT, nT, cT, rfl⟩ := hsT.shape
  obtain ⟨aR, nR, cR, rfl⟩ := hsR.shape
  have hnT := hsT.le spc_len (by omega)
  have hnR := hsR.le rpc_len (by omega)
  subst hnT hnR
  have hU : (∀ n, detR (.agg #[I d.c.wide, I d.c.high, sD, .slice aT d.c.tide.length cT, sS]) d.c 36 [.agg #[I d.c.wide, I d.c.high, sD, .slice aT d.c.tide.length cT, sS], I n] = some (.bool (inB n 0 (wr ((d.c.tide.length : Int) - 1))))) ∧ (∀ n, detR (.agg #[I d.c.wide, I d.c.high, sD, .slice aT d.c.tide.length cT, sS]) d.c 40 [.agg #[I d.c.wide, I d.c.high, sD, .slice aT d.c.tide.length cT, sS], I n] = some (.bool (isCellB d.c.wide d.c.high n))) := ⟨fun _ => rfl, fun _ => rfl⟩
  have dn : (∀ xs, detR (.agg #[I d.c.wide, I d.c.high, sD, .slice aT d.c.tide.length cT, sS]) d.c 13 xs = none) ∧ (∀ xs, detR (.agg #[I d.c.wide, I d.c.high, sD, .slice aT d.c.tide.length cT, sS]) d.c 15 xs = none) ∧ (∀ xs, detR (.agg #[I d.c.wide, I d.c.high, sD, .slice aT d.c.tide.length cT, sS]) d.c 14 xs = none) ∧ (∀ xs, detR (.agg #[I d.c.wide, I d.c.high, sD, .slice aT d.c.tide.length cT, sS]) d.c 25 xs = none) ∧ (∀ xs, detR (.agg #[I d.c.wide, I d.c.high, sD, .slice aT d.c.tide.length cT, sS]) d.c 29 xs = none) ∧ (∀ xs, detR (.agg #[I d.c.wide, I d.c.high, sD, .slice aT d.c.tide.length cT, sS]) d.c 27 xs = none) ∧ (∀ xs, detR (.agg #[I d.c.wide, I d.c.high, sD, .slice aT d.c.tide.length cT, sS]) d.c 35 xs = none) ∧ (∀ xs, detR (.agg #[I d.c.wide, I d.c.high, sD, .slice aT d.c.tide.length cT, sS]) d.c 33 xs = none) ∧ (∀ xs, detR (.agg #[I d.c.wide, I d.c.high, sD, .slice aT d.c.tide.length cT, sS]) d.c 24 xs = none) := ⟨fun _ => rfl, fun _ => rfl, fun _ => rfl, fun _ => rfl, fun _ => rfl, fun _ => rfl, fun _ => rfl, fun _ => rfl, fun _ => rfl⟩
  refine walkC [15, 26] [] [] hD Tryd.func11 rfl Tryd.ntmps11 res11 (by kernel_rfl) no_facts ?_
  simp (config := { maxSteps := 4000000 }) only [↓sx0, ↓sx1, ↓sx2, ↓sx3, ↓sx4, ↓sx5, ↓sx6, sx0, sx1, sx2, sx3, sx4, sx5, sx6, tf11, ev3_hold, sxo, sxc, sxp, sxq, sxr, sxs, sxl, sxm, Int.reduceBEq, Int.reduceBNe, Int.reduceLT, Int.reduceLE, Int.reduceEq, Int.reduceGT, Int.reduceGE, Int.reduceToNat, ↓reduceIte, List.reduceReplicate, Nat.reduceAdd, Nat.reduceSub, Nat.reduceMul, Nat.reduceLT, Nat.reduceLeDiff, Nat.reduceBEq, Nat.reduceEqDiff, dn]
  refine CallOb.pureH (fun w' hp => hva _ w' hp) ?_
  rintro q N ⟨b, rfl, hb1⟩
  cases b with
  | true =>
    refine ⟨?_⟩
    simp (config := { maxSteps := 4000000 }) only [↓sx0, ↓sx1, ↓sx2, ↓sx3, ↓sx4, ↓sx5, ↓sx6, sx0, sx1, sx2, sx3, sx4, sx5, sx6, tf11, ev3_hold, sxo, sxc, sxp, sxq, sxr, sxs, sxl, sxm, Int.reduceBEq, Int.reduceBNe, Int.reduceLT, Int.reduceLE, Int.reduceEq, Int.reduceGT, Int.reduceGE, Int.reduceToNat, ↓reduceIte, List.reduceReplicate, Nat.reduceAdd, Nat.reduceSub, Nat.reduceMul, Nat.reduceLT, Nat.reduceLeDiff, Nat.reduceBEq, Nat.reduceEqDiff, dn]
    refine CallOb.pureH (fun w' hp => hwk _ w' hp) ?_
    rintro q N2 rfl
    refine ⟨?_⟩
    simp (config := { maxSteps := 4000000 }) only [↓sx0, ↓sx1, ↓sx2, ↓sx3, ↓sx4, ↓sx5, ↓sx6, sx0, sx1, sx2, sx3, sx4, sx5, sx6, tf11, ev3_hold, sxo, sxc, sxp, sxq, sxr, sxs, sxl, sxm, Int.reduceBEq, Int.reduceBNe, Int.reduceLT, Int.reduceLE, Int.reduceEq, Int.reduceGT, Int.reduceGE, Int.reduceToNat, ↓reduceIte, List.reduceReplicate, Nat.reduceAdd, Nat.reduceSub, Nat.reduceMul, Nat.reduceLT, Nat.reduceLeDiff, Nat.reduceBEq, Nat.reduceEqDiff]
  | false =>
  have hfew := hb1 rfl
  have hsm := hfew.small
  refine ⟨?_⟩
  simp (config := { maxSteps := 4000000 }) only [↓sx0, ↓sx1, ↓sx2, ↓sx3, ↓sx4, ↓sx5, ↓sx6, sx0, sx1, sx2, sx3, sx4, sx5, sx6, tf11, ev3_hold, sxo, sxc, sxp, sxq, sxr, sxs, sxl, sxm, Int.reduceBEq, Int.reduceBNe, Int.reduceLT, Int.reduceLE, Int.reduceEq, Int.reduceGT, Int.reduceGE, Int.reduceToNat, ↓reduceIte, List.reduceReplicate, Nat.reduceAdd, Nat.reduceSub, Nat.reduceMul, Nat.reduceLT, Nat.reduceLeDiff, Nat.reduceBEq, Nat.reduceEqDiff, dn]
  refine CallOb.pureH (fun w' hp => hck hsm _ w' hp) ?_
  rintro q N2 rfl
  by_cases hE : d.E = 0
  case neg =>
    have p1 : (d.E = 0) = False := eq_false hE
    refine ⟨?_⟩
    simp (config := { maxSteps := 4000000 }) only [↓sx0, ↓sx1, ↓sx2, ↓sx3, ↓sx4, ↓sx5, ↓sx6, sx0, sx1, sx2, sx3, sx4, sx5, sx6, tf11, ev3_hold, sxo, sxc, sxp, sxq, sxr, sxs, sxl, sxm, Int.reduceBEq, Int.reduceBNe, Int.reduceLT, Int.reduceLE, Int.reduceEq, Int.reduceGT, Int.reduceGE, Int.reduceToNat, ↓reduceIte, List.reduceReplicate, Nat.reduceAdd, Nat.reduceSub, Nat.reduceMul, Nat.reduceLT, Nat.reduceLeDiff, Nat.reduceBEq, Nat.reduceEqDiff, p1, dn]
    refine CallOb.pureH (fun w' hp => hwk _ w' hp) ?_
    rintro q N2 rfl
    refine ⟨?_⟩
    simp (config := { maxSteps := 4000000 }) only [↓sx0, ↓sx1, ↓sx2, ↓sx3, ↓sx4, ↓sx5, ↓sx6, sx0, sx1, sx2, sx3, sx4, sx5, sx6, tf11, ev3_hold, sxo, sxc, sxp, sxq, sxr, sxs, sxl, sxm, Int.reduceBEq, Int.reduceBNe, Int.reduceLT, Int.reduceLE, Int.reduceEq, Int.reduceGT, Int.reduceGE, Int.reduceToNat, ↓reduceIte, List.reduceReplicate, Nat.reduceAdd, Nat.reduceSub, Nat.reduceMul, Nat.reduceLT, Nat.reduceLeDiff, Nat.reduceBEq, Nat.reduceEqDiff]
  have p1 : (d.E = 0) = True := eq_true hE
  obtain ⟨hok, _, _, hm12, _⟩ := Dis.E_zero hE
  obtain ⟨h20, h6, hr6⟩ := hfew.2.2 hE
  have hm10 : d.rs.length ≤ 10 := by omega
  have hcell : ∀ n, isCellB d.c.wide d.c.high n = inB n 0 ((d.c.depth.length : Int) - 1) := fun n => by rw [isCell_iff hok]; unfold notCell; rw [Bool.not_not]
  have e1 : wr ((d.c.tide.length : Int) - 1) = (d.c.tide.length : Int) - 1 := wrap_id (by omega)
  cases htk : inB t 0 ((d.c.tide.length : Int) - 1) with
  | false =>
    refine ⟨?_⟩
    simp (config := { maxSteps := 4000000 }) only [↓sx0, ↓sx1, ↓sx2, ↓sx3, ↓sx4, ↓sx5, ↓sx6, sx0, sx1, sx2, sx3, sx4, sx5, sx6, tf11, ev3_hold, sxo, sxc, sxp, sxq, sxr, sxs, sxl, sxm, Int.reduceBEq, Int.reduceBNe, Int.reduceLT, Int.reduceLE, Int.reduceEq, Int.reduceGT, Int.reduceGE, Int.reduceToNat, ↓reduceIte, List.reduceReplicate, Nat.reduceAdd, Nat.reduceSub, Nat.reduceMul, Nat.reduceLT, Nat.reduceLeDiff, Nat.reduceBEq, Nat.reduceEqDiff, p1, hU, e1, htk, dn]
    refine CallOb.pureH (fun w' hp => hwk _ w' hp) ?_
    rintro q N9 rfl
    refine ⟨?_⟩
    simp (config := { maxSteps := 4000000 }) only [↓sx0, ↓sx1, ↓sx2, ↓sx3, ↓sx4, ↓sx5, ↓sx6, sx0, sx1, sx2, sx3, sx4, sx5, sx6, tf11, ev3_hold, sxo, sxc, sxp, sxq, sxr, sxs, sxl, sxm, Int.reduceBEq, Int.reduceBNe, Int.reduceLT, Int.reduceLE, Int.reduceEq, Int.reduceGT, Int.reduceGE, Int.reduceToNat, ↓reduceIte, List.reduceReplicate, Nat.reduceAdd, Nat.reduceSub, Nat.reduceMul, Nat.reduceLT, Nat.reduceLeDiff, Nat.reduceBEq, Nat.reduceEqDiff]
  | true =>
  by_cases hm0 : more < 0
  · have p2 : (more < 0) = True := eq_true hm0
    refine ⟨?_⟩
    simp (config := { maxSteps := 4000000 }) only [↓sx0, ↓sx1, ↓sx2, ↓sx3, ↓sx4, ↓sx5, ↓sx6, sx0, sx1, sx2, sx3, sx4, sx5, sx6, tf11, ev3_hold, sxo, sxc, sxp, sxq, sxr, sxs, sxl, sxm, Int.reduceBEq, Int.reduceBNe, Int.reduceLT, Int.reduceLE, Int.reduceEq, Int.reduceGT, Int.reduceGE, Int.reduceToNat, ↓reduceIte, List.reduceReplicate, Nat.reduceAdd, Nat.reduceSub, Nat.reduceMul, Nat.reduceLT, Nat.reduceLeDiff, Nat.reduceBEq, Nat.reduceEqDiff, p1, hU, e1, htk, p2, dn]
    refine CallOb.pureH (fun w' hp => hwk _ w' hp) ?_
    rintro q N9 rfl
    refine ⟨?_⟩
    simp (config := { maxSteps := 4000000 }) only [↓sx0, ↓sx1, ↓sx2, ↓sx3, ↓sx4, ↓sx5, ↓sx6, sx0, sx1, sx2, sx3, sx4, sx5, sx6, tf11, ev3_hold, sxo, sxc, sxp, sxq, sxr, sxs, sxl, sxm, Int.reduceBEq, Int.reduceBNe, Int.reduceLT, Int.reduceLE, Int.reduceEq, Int.reduceGT, Int.reduceGE, Int.reduceToNat, ↓reduceIte, List.reduceReplicate, Nat.reduceAdd, Nat.reduceSub, Nat.reduceMul, Nat.reduceLT, Nat.reduceLeDiff, Nat.reduceBEq, Nat.reduceEqDiff]
  have p2 : (more < 0) = False := eq_false hm0
  by_cases hm1 : more > 100
  · have p3 : (more > 100) = True := eq_true hm1
    refine ⟨?_⟩
    simp (config := { maxSteps := 4000000 }) only [↓sx0, ↓sx1, ↓sx2, ↓sx3, ↓sx4, ↓sx5, ↓sx6, sx0, sx1, sx2, sx3, sx4, sx5, sx6, tf11, ev3_hold, sxo, sxc, sxp, sxq, sxr, sxs, sxl, sxm, Int.reduceBEq, Int.reduceBNe, Int.reduceLT, Int.reduceLE, Int.reduceEq, Int.reduceGT, Int.reduceGE, Int.reduceToNat, ↓reduceIte, List.reduceReplicate, Nat.reduceAdd, Nat.reduceSub, Nat.reduceMul, Nat.reduceLT, Nat.reduceLeDiff, Nat.reduceBEq, Nat.reduceEqDiff, p1, hU, e1, htk, p2, p3, dn]
    refine CallOb.pureH (fun w' hp => hwk _ w' hp) ?_
    rintro q N9 rfl
    refine ⟨?_⟩
    simp (config := { maxSteps := 4000000 }) only [↓sx0, ↓sx1, ↓sx2, ↓sx3, ↓sx4, ↓sx5, ↓sx6, sx0, sx1, sx2, sx3, sx4, sx5, sx6, tf11, ev3_hold, sxo, sxc, sxp, sxq, sxr, sxs, sxl, sxm, Int.reduceBEq, Int.reduceBNe, Int.reduceLT, Int.reduceLE, Int.reduceEq, Int.reduceGT, Int.reduceGE, Int.reduceToNat, ↓reduceIte, List.reduceReplicate, Nat.reduceAdd, Nat.reduceSub, Nat.reduceMul, Nat.reduceLT, Nat.reduceLeDiff, Nat.reduceBEq, Nat.reduceEqDiff]
  have p3 : (more > 100) = False := eq_false hm1
  have htb := (inB_iff _ _ _).1 htk
  obtain ⟨t0, rfl⟩ : ∃ t0 : Nat, t = t0 := ⟨t.toNat, by omega⟩
  have ht0 : t0 < d.c.tide.length := by omega
  have h1n : 1 ≤ d.c.depth.length := by
    obtain ⟨_, _, hW, hH, hlen⟩ := hok.dims
    rw [hlen]; exact Nat.mul_le_mul hW.1 hH.1
  have hE20 : d.E2 t0 0 = 0 := by
    unfold Dis.E2
    rw [if_pos hE, if_pos]
    rw [htk, Bool.true_and, inB_iff]
    omega
  have hdo := hdo hsm
  unfold DoubtP at hdo
  simp only [hE, true_and, if_true] at hdo
  have hwh := hwh hsm t0
  unfold WhereP at hwh
  simp only [hE20, if_true] at hwh
  have hE3 : ∀ n, inB n 0 1200 = true → d.E3 t0 n = 0 := fun n hn => by
    unfold Dis.E3
    rw [if_pos hE20, if_pos hn]
  have hwi := fun n (hn : inB n 0 1200 = true) (H : List HO) w' (hp : Hp ⟨w, fun _ => False⟩ H w') => by
    have h := hwi hsm t0 n H w' hp
    unfold WithinP at h
    simp only [hE3 n hn, if_true] at h
    exact h
  have hwi0 := fun H => hwi 0 (by decide) H
  rw [Dis.wth_zero hE ht0] at hwi0
  have hnil := Dis.whr_nil hE ht0
  have hnone := Dis.dbt_none hE
  have hfirst := Dis.dbt_first hE
  have hgo := Dis.crs_ok hE (Dis.pDbt_ok hE)
  have hcourse := Dis.dbt_course hE
  have htot := fun M => Dis.dbt_tot hE (M := M)
  have hmw := fun x n hn => Dis.mem_wth hE (t := t0) (x := x) ht0 (n := n) hn
  have hll := fun M (h : (d.crs d.pDbt).Course M) => Crs.least_le hgo h
  have hlt := Crs.least_lt hgo
  have hbd := dSum_bd hE
  obtain ⟨LV, hLV⟩ : ∃ LV, (d.crs d.pDbt).least = LV := ⟨_, rfl⟩
  obtain ⟨F, hF⟩ : ∃ F, (d.crs d.pDbt).first = F := ⟨_, rfl⟩
  simp only [hLV, hF] at hdo hnone hfirst hll hlt
  obtain ⟨WL, hWL⟩ : ∃ WL, d.whrL t0 = WL := ⟨_, rfl⟩
  simp only [hWL] at hwh hwi0 hnil
  have hwl : (zs WL).length ≤ 1000 := by
    rw [zs_len, ← hWL]
    exact Nat.le_trans (chpL_len _ _ _) (by omega)
  have hFl : LV < NV → (zs F).length ≤ 1000000 := fun h => by
    rw [zs_len, (hfirst h).1.1]
    omega
  -- what the codes are
  obtain ⟨e, l0, FF, hdo, he⟩ : ∃ (e l0 : Int) (FF : List Int), (∀ (H : List HO) w' (hp : Hp ⟨w, fun _ => False⟩ H w'), SX.Fn Tryd.prog 25 [.agg #[I d.c.wide, I d.c.high, sD, .slice aT d.c.tide.length cT, sS, I d.dr, I d.pc, .slice aR d.rs.length cR]] w' (fun _ => False) fun q N => ∃ x, q = .tuple #[I l0, x, I e] ∧ Got x 3 1 i1 FF N) ∧ ((LV < NV ∧ e = 0 ∧ l0 = LV ∧ FF = zs F) ∨ (¬ LV < NV ∧ e = 3 ∧ l0 = 0 ∧ FF = [])) := by
    by_cases h : LV < NV
    · exact ⟨0, LV, zs F, fun H w' hp => by have := hdo H w' hp; simp only [h, if_true] at this; exact this, .inl ⟨h, rfl, rfl, rfl⟩⟩
    · exact ⟨3, 0, [], fun H w' hp => by have := hdo H w' hp; simp only [h, if_false] at this; exact this, .inr ⟨h, rfl, rfl, rfl⟩⟩
  obtain ⟨f, hwh, hf⟩ : ∃ (f : Int), (∀ (H : List HO) w' (hp : Hp ⟨w, fun _ => False⟩ H w'), SX.Fn Tryd.prog 29 [.agg #[I d.c.wide, I d.c.high, sD, .slice aT d.c.tide.length cT, sS, I d.dr, I d.pc, .slice aR d.rs.length cR], I t0] w' (fun _ => False) fun q N => ∃ x, q = .tuple #[x, I f] ∧ Got x 3 1 i1 (zs WL) N) ∧ ((f = 0 ∧ LV < NV ∧ LV = 0) ∨ (f = 3 ∧ ¬ (LV < NV ∧ LV = 0))) := by
    by_cases h : WL = []
    · exact ⟨3, fun H w' hp => by have := hwh H w' hp; simp only [h, if_true] at this ⊢; exact this, .inr ⟨rfl, fun h2 => hnil.1 h (hnone.1 h2)⟩⟩
    · refine ⟨0, fun H w' hp => by have := hwh H w' hp; simp only [h, if_false] at this ⊢; exact this, .inl ⟨rfl, ?_⟩⟩
      exact hnone.2 (Classical.byContradiction fun h2 => h (hnil.2 h2))
  have hsa := fun (w' : World) (u v : Value) (h1 : Sl w' u 1 (ints (zs WL))) (h2 : Sl w' v 1 (ints (zs WL))) => same3_fn w' u v (zs WL) (zs WL) h1 h2 (by omega)
  rw [decide_eq_true rfl] at hsa
  refine ⟨?_⟩
  simp (config := { maxSteps := 4000000 }) only [↓sx0, ↓sx1, ↓sx2, ↓sx3, ↓sx4, ↓sx5, ↓sx6, sx0, sx1, sx2, sx3, sx4, sx5, sx6, tf11, ev3_hold, sxo, sxc, sxp, sxq, sxr, sxs, sxl, sxm, Int.reduceBEq, Int.reduceBNe, Int.reduceLT, Int.reduceLE, Int.reduceEq, Int.reduceGT, Int.reduceGE, Int.reduceToNat, ↓reduceIte, List.reduceReplicate, Nat.reduceAdd, Nat.reduceSub, Nat.reduceMul, Nat.reduceLT, Nat.reduceLeDiff, Nat.reduceBEq, Nat.reduceEqDiff, p1, hU, e1, htk, p2, p3, dn]
  refine CallOb.pureH (fun w' hp => hdo _ w' hp) ?_
  rintro q N3 ⟨x3, rfl, hG3⟩
  obtain ⟨a3, c3, rfl⟩ := hG3.shape
  refine ⟨?_⟩
  simp (config := { maxSteps := 4000000 }) only [↓sx0, ↓sx1, ↓sx2, ↓sx3, ↓sx4, ↓sx5, ↓sx6, sx0, sx1, sx2, sx3, sx4, sx5, sx6, tf11, ev3_hold, sxo, sxc, sxp, sxq, sxr, sxs, sxl, sxm, Int.reduceBEq, Int.reduceBNe, Int.reduceLT, Int.reduceLE, Int.reduceEq, Int.reduceGT, Int.reduceGE, Int.reduceToNat, ↓reduceIte, List.reduceReplicate, Nat.reduceAdd, Nat.reduceSub, Nat.reduceMul, Nat.reduceLT, Nat.reduceLeDiff, Nat.reduceBEq, Nat.reduceEqDiff, dn]
  refine CallOb.pureH (fun w' hp => hwh _ w' hp) ?_
  rintro q N4 ⟨x4, rfl, hG4⟩
  obtain ⟨a4, c4, rfl⟩ := hG4.shape
  refine ⟨?_⟩
  simp (config := { maxSteps := 4000000 }) only [↓sx0, ↓sx1, ↓sx2, ↓sx3, ↓sx4, ↓sx5, ↓sx6, sx0, sx1, sx2, sx3, sx4, sx5, sx6, tf11, ev3_hold, sxo, sxc, sxp, sxq, sxr, sxs, sxl, sxm, Int.reduceBEq, Int.reduceBNe, Int.reduceLT, Int.reduceLE, Int.reduceEq, Int.reduceGT, Int.reduceGE, Int.reduceToNat, ↓reduceIte, List.reduceReplicate, Nat.reduceAdd, Nat.reduceSub, Nat.reduceMul, Nat.reduceLT, Nat.reduceLeDiff, Nat.reduceBEq, Nat.reduceEqDiff, dn]
  refine CallOb.pureH (fun w' hp => hwi0 _ w' hp) ?_
  rintro q N5 ⟨x5, rfl, hG5⟩
  obtain ⟨a5, c5, rfl⟩ := hG5.shape
  obtain ⟨K, hK⟩ : ∃ K, N5 ++ (N4 ++ (N3 ++ (N2 ++ N))) = K := ⟨_, rfl⟩
  have hG3 := hG3.mono (N' := K) (fun h hh => by rw [← hK]; simp [hh])
  have hG4 := hG4.mono (N' := K) (fun h hh => by rw [← hK]; simp [hh])
  have hG5 := hG5.mono (N' := K) (fun h hh => by rw [← hK]; simp [hh])
  rw [hK]
  refine ⟨?_⟩
  simp (config := { maxSteps := 4000000 }) only [↓sx0, ↓sx1, ↓sx2, ↓sx3, ↓sx4, ↓sx5, ↓sx6, sx0, sx1, sx2, sx3, sx4, sx5, sx6, tf11, ev3_hold, sxo, sxc, sxp, sxq, sxr, sxs, sxl, sxm, Int.reduceBEq, Int.reduceBNe, Int.reduceLT, Int.reduceLE, Int.reduceEq, Int.reduceGT, Int.reduceGE, Int.reduceToNat, ↓reduceIte, List.reduceReplicate, Nat.reduceAdd, Nat.reduceSub, Nat.reduceMul, Nat.reduceLT, Nat.reduceLeDiff, Nat.reduceBEq, Nat.reduceEqDiff]
  refine cut_constH [(72, 106)] (fun _ : Unit => [(106, .bool false)]) (fun _ H2 => H2 = K) ?_ ?_
  · rcases he with ⟨hlt2, rfl, rfl, _⟩ | ⟨hlt2, rfl, rfl, _⟩
    · rcases hf with ⟨rfl, _, h0⟩ | ⟨rfl, h0⟩
      · have q1 : (l0 == 0) = true := by simp [h0]
        refine ⟨?_⟩
        simp (config := { maxSteps := 4000000 }) only [↓sx0, ↓sx1, ↓sx2, ↓sx3, ↓sx4, ↓sx5, ↓sx6, sx0, sx1, sx2, sx3, sx4, sx5, sx6, tf11, ev3_hold, sxo, sxc, sxp, sxq, sxr, sxs, sxl, sxm, Int.reduceBEq, Int.reduceBNe, Int.reduceLT, Int.reduceLE, Int.reduceEq, Int.reduceGT, Int.reduceGE, Int.reduceToNat, ↓reduceIte, List.reduceReplicate, Nat.reduceAdd, Nat.reduceSub, Nat.reduceMul, Nat.reduceLT, Nat.reduceLeDiff, Nat.reduceBEq, Nat.reduceEqDiff, q1, dn]
        refine CallOb.pureH (fun w' hp => hsa w' _ _ (hG5.hp (fun h hh => hh) hp) (hG4.hp (fun h hh => hh) hp)) ?_
        rintro q N6 rfl
        refine ⟨?_⟩
        simp (config := { maxSteps := 4000000 }) only [↓sx0, ↓sx1, ↓sx2, ↓sx3, ↓sx4, ↓sx5, ↓sx6, sx0, sx1, sx2, sx3, sx4, sx5, sx6, tf11, ev3_hold, sxo, sxc, sxp, sxq, sxr, sxs, sxl, sxm, Int.reduceBEq, Int.reduceBNe, Int.reduceLT, Int.reduceLE, Int.reduceEq, Int.reduceGT, Int.reduceGE, Int.reduceToNat, ↓reduceIte, List.reduceReplicate, Nat.reduceAdd, Nat.reduceSub, Nat.reduceMul, Nat.reduceLT, Nat.reduceLeDiff, Nat.reduceBEq, Nat.reduceEqDiff]
        exact ⟨(), _, HImp.app _ _ _, rfl⟩
      · have q1 : (l0 == 0) = false := by simpa using fun h => h0 ⟨hlt2, h⟩
        refine ⟨?_⟩
        simp (config := { maxSteps := 4000000 }) only [↓sx0, ↓sx1, ↓sx2, ↓sx3, ↓sx4, ↓sx5, ↓sx6, sx0, sx1, sx2, sx3, sx4, sx5, sx6, tf11, ev3_hold, sxo, sxc, sxp, sxq, sxr, sxs, sxl, sxm, Int.reduceBEq, Int.reduceBNe, Int.reduceLT, Int.reduceLE, Int.reduceEq, Int.reduceGT, Int.reduceGE, Int.reduceToNat, ↓reduceIte, List.reduceReplicate, Nat.reduceAdd, Nat.reduceSub, Nat.reduceMul, Nat.reduceLT, Nat.reduceLeDiff, Nat.reduceBEq, Nat.reduceEqDiff, q1, dn]
        refine CallOb.pureH (fun w' hp => hsa w' _ _ (hG5.hp (fun h hh => hh) hp) (hG4.hp (fun h hh => hh) hp)) ?_
        rintro q N6 rfl
        refine ⟨?_⟩
        simp (config := { maxSteps := 4000000 }) only [↓sx0, ↓sx1, ↓sx2, ↓sx3, ↓sx4, ↓sx5, ↓sx6, sx0, sx1, sx2, sx3, sx4, sx5, sx6, tf11, ev3_hold, sxo, sxc, sxp, sxq, sxr, sxs, sxl, sxm, Int.reduceBEq, Int.reduceBNe, Int.reduceLT, Int.reduceLE, Int.reduceEq, Int.reduceGT, Int.reduceGE, Int.reduceToNat, ↓reduceIte, List.reduceReplicate, Nat.reduceAdd, Nat.reduceSub, Nat.reduceMul, Nat.reduceLT, Nat.reduceLeDiff, Nat.reduceBEq, Nat.reduceEqDiff]
        exact ⟨(), _, HImp.app _ _ _, rfl⟩
    · have hf3 : f = 3 := by
        rcases hf with ⟨_, h, _⟩ | ⟨h, _⟩
        · exact absurd h hlt2
        · exact h
      subst hf3
      refine ⟨?_⟩
      simp (config := { maxSteps := 4000000 }) only [↓sx0, ↓sx1, ↓sx2, ↓sx3, ↓sx4, ↓sx5, ↓sx6, sx0, sx1, sx2, sx3, sx4, sx5, sx6, tf11, ev3_hold, sxo, sxc, sxp, sxq, sxr, sxs, sxl, sxm, Int.reduceBEq, Int.reduceBNe, Int.reduceLT, Int.reduceLE, Int.reduceEq, Int.reduceGT, Int.reduceGE, Int.reduceToNat, ↓reduceIte, List.reduceReplicate, Nat.reduceAdd, Nat.reduceSub, Nat.reduceMul, Nat.reduceLT, Nat.reduceLeDiff, Nat.reduceBEq, Nat.reduceEqDiff, dn]
      refine CallOb.pureH (fun w' hp => hsa w' _ _ (hG5.hp (fun h hh => hh) hp) (hG4.hp (fun h hh => hh) hp)) ?_
      rintro q N6 rfl
      refine ⟨?_⟩
      simp (config := { maxSteps := 4000000 }) only [↓sx0, ↓sx1, ↓sx2, ↓sx3, ↓sx4, ↓sx5, ↓sx6, sx0, sx1, sx2, sx3, sx4, sx5, sx6, tf11, ev3_hold, sxo, sxc, sxp, sxq, sxr, sxs, sxl, sxm, Int.reduceBEq, Int.reduceBNe, Int.reduceLT, Int.reduceLE, Int.reduceEq, Int.reduceGT, Int.reduceGE, Int.reduceToNat, ↓reduceIte, List.reduceReplicate, Nat.reduceAdd, Nat.reduceSub, Nat.reduceMul, Nat.reduceLT, Nat.reduceLeDiff, Nat.reduceBEq, Nat.reduceEqDiff]
      exact ⟨(), _, HImp.app _ _ _, rfl⟩
  rintro _ H2 g2 rfl
  have hzi : ∀ M, zs F = zs M → F = M := fun M h => zs_inj h
  refine ⟨?_⟩
  simp (config := { maxSteps := 4000000 }) only [↓sx0, ↓sx1, ↓sx2, ↓sx3, ↓sx4, ↓sx5, ↓sx6, sx0, sx1, sx2, sx3, sx4, sx5, sx6, tf11, ev3_hold, sxo, sxc, sxp, sxq, sxr, sxs, sxl, sxm, Int.reduceBEq, Int.reduceBNe, Int.reduceLT, Int.reduceLE, Int.reduceEq, Int.reduceGT, Int.reduceGE, Int.reduceToNat, ↓reduceIte, List.reduceReplicate, Nat.reduceAdd, Nat.reduceSub, Nat.reduceMul, Nat.reduceLT, Nat.reduceLeDiff, Nat.reduceBEq, Nat.reduceEqDiff]
  refine cut_constH [(6, 6), (16, 18), (107, 126)] (fun _ : Unit => []) (fun _ H3 => H3 = H2) ?_ ?_
  · rcases he with ⟨hlt2, rfl, rfl, hFF⟩ | ⟨hlt2, rfl, rfl, _⟩
    · obtain ⟨w1, w2, w3⟩ := hfirst hlt2
      have hDb : ∀ q, DbtP d FF q → q = .tuple #[I l0, .bool true, .bool true] := fun q h => by
        rw [hFF] at h
        rcases h with ⟨M, h1, h2, h3⟩ | ⟨h1, _⟩
        · rw [← hzi M h1, w2, w3] at h3
          exact h3
        · exact absurd ⟨_, rfl, w1⟩ h1
      have hdb := hdb hE (.slice a3 FF.length c3) FF
      have hFFl : FF.length ≤ 1000000 := by rw [hFF]; exact hFl hlt2
      refine ⟨?_⟩
      simp (config := { maxSteps := 4000000 }) only [↓sx0, ↓sx1, ↓sx2, ↓sx3, ↓sx4, ↓sx5, ↓sx6, sx0, sx1, sx2, sx3, sx4, sx5, sx6, tf11, ev3_hold, sxo, sxc, sxp, sxq, sxr, sxs, sxl, sxm, Int.reduceBEq, Int.reduceBNe, Int.reduceLT, Int.reduceLE, Int.reduceEq, Int.reduceGT, Int.reduceGE, Int.reduceToNat, ↓reduceIte, List.reduceReplicate, Nat.reduceAdd, Nat.reduceSub, Nat.reduceMul, Nat.reduceLT, Nat.reduceLeDiff, Nat.reduceBEq, Nat.reduceEqDiff, dn]
      refine CallOb.pureH (fun w' hp => hdb _ w' hp (hG3.hp (fun h hh => hh) hp)) ?_
      intro q N6 hq
      have hq := hDb q hq
      subst hq
      have z0 : (l0 = l0) = True := eq_true rfl
      refine ⟨?_⟩
      simp (config := { maxSteps := 4000000 }) only [↓sx0, ↓sx1, ↓sx2, ↓sx3, ↓sx4, ↓sx5, ↓sx6, sx0, sx1, sx2, sx3, sx4, sx5, sx6, tf11, ev3_hold, sxo, sxc, sxp, sxq, sxr, sxs, sxl, sxm, Int.reduceBEq, Int.reduceBNe, Int.reduceLT, Int.reduceLE, Int.reduceEq, Int.reduceGT, Int.reduceGE, Int.reduceToNat, ↓reduceIte, List.reduceReplicate, Nat.reduceAdd, Nat.reduceSub, Nat.reduceMul, Nat.reduceLT, Nat.reduceLeDiff, Nat.reduceBEq, Nat.reduceEqDiff, z0]
      exact ⟨(), _, HImp.app _ _ _, rfl⟩
    · refine ⟨?_⟩
      simp (config := { maxSteps := 4000000 }) only [↓sx0, ↓sx1, ↓sx2, ↓sx3, ↓sx4, ↓sx5, ↓sx6, sx0, sx1, sx2, sx3, sx4, sx5, sx6, tf11, ev3_hold, sxo, sxc, sxp, sxq, sxr, sxs, sxl, sxm, Int.reduceBEq, Int.reduceBNe, Int.reduceLT, Int.reduceLE, Int.reduceEq, Int.reduceGT, Int.reduceGE, Int.reduceToNat, ↓reduceIte, List.reduceReplicate, Nat.reduceAdd, Nat.reduceSub, Nat.reduceMul, Nat.reduceLT, Nat.reduceLeDiff, Nat.reduceBEq, Nat.reduceEqDiff]
      exact ⟨(), _, HImp.refl _ _, rfl⟩
  rintro _ H3 g3 rfl
  have hdb := hdb hE (.slice aL L.length cL) L
  refine ⟨?_⟩
  simp (config := { maxSteps := 4000000 }) only [↓sx0, ↓sx1, ↓sx2, ↓sx3, ↓sx4, ↓sx5, ↓sx6, sx0, sx1, sx2, sx3, sx4, sx5, sx6, tf11, ev3_hold, sxo, sxc, sxp, sxq, sxr, sxs, sxl, sxm, Int.reduceBEq, Int.reduceBNe, Int.reduceLT, Int.reduceLE, Int.reduceEq, Int.reduceGT, Int.reduceGE, Int.reduceToNat, ↓reduceIte, List.reduceReplicate, Nat.reduceAdd, Nat.reduceSub, Nat.reduceMul, Nat.reduceLT, Nat.reduceLeDiff, Nat.reduceBEq, Nat.reduceEqDiff, dn]
  refine CallOb.pureH (fun w' hp => hdb _ w' hp (hL0.hp (fun _ _ => id) hp)) ?_
  rintro q N6 (⟨M, hM, hway, rfl⟩ | ⟨_, rfl⟩)
  case inr =>
    refine ⟨?_⟩
    simp (config := { maxSteps := 4000000 }) only [↓sx0, ↓sx1, ↓sx2, ↓sx3, ↓sx4, ↓sx5, ↓sx6, sx0, sx1, sx2, sx3, sx4, sx5, sx6, tf11, ev3_hold, sxo, sxc, sxp, sxq, sxr, sxs, sxl, sxm, Int.reduceBEq, Int.reduceBNe, Int.reduceLT, Int.reduceLE, Int.reduceEq, Int.reduceGT, Int.reduceGE, Int.reduceToNat, ↓reduceIte, List.reduceReplicate, Nat.reduceAdd, Nat.reduceSub, Nat.reduceMul, Nat.reduceLT, Nat.reduceLeDiff, Nat.reduceBEq, Nat.reduceEqDiff, dn]
    refine CallOb.pureH (fun w' hp => hwk _ w' hp) ?_
    rintro q N9 rfl
    refine ⟨?_⟩
    simp (config := { maxSteps := 4000000 }) only [↓sx0, ↓sx1, ↓sx2, ↓sx3, ↓sx4, ↓sx5, ↓sx6, sx0, sx1, sx2, sx3, sx4, sx5, sx6, tf11, ev3_hold, sxo, sxc, sxp, sxq, sxr, sxs, sxl, sxm, Int.reduceBEq, Int.reduceBNe, Int.reduceLT, Int.reduceLE, Int.reduceEq, Int.reduceGT, Int.reduceGE, Int.reduceToNat, ↓reduceIte, List.reduceReplicate, Nat.reduceAdd, Nat.reduceSub, Nat.reduceMul, Nat.reduceLT, Nat.reduceLeDiff, Nat.reduceBEq, Nat.reduceEqDiff]
  cases hpos : d.posB M d.rs.length with
  | false =>
    refine ⟨?_⟩
    simp (config := { maxSteps := 4000000 }) only [↓sx0, ↓sx1, ↓sx2, ↓sx3, ↓sx4, ↓sx5, ↓sx6, sx0, sx1, sx2, sx3, sx4, sx5, sx6, tf11, ev3_hold, sxo, sxc, sxp, sxq, sxr, sxs, sxl, sxm, Int.reduceBEq, Int.reduceBNe, Int.reduceLT, Int.reduceLE, Int.reduceEq, Int.reduceGT, Int.reduceGE, Int.reduceToNat, ↓reduceIte, List.reduceReplicate, Nat.reduceAdd, Nat.reduceSub, Nat.reduceMul, Nat.reduceLT, Nat.reduceLeDiff, Nat.reduceBEq, Nat.reduceEqDiff, dn]
    refine CallOb.pureH (fun w' hp => hwk _ w' hp) ?_
    rintro q N9 rfl
    refine ⟨?_⟩
    simp (config := { maxSteps := 4000000 }) only [↓sx0, ↓sx1, ↓sx2, ↓sx3, ↓sx4, ↓sx5, ↓sx6, sx0, sx1, sx2, sx3, sx4, sx5, sx6, tf11, ev3_hold, sxo, sxc, sxp, sxq, sxr, sxs, sxl, sxm, Int.reduceBEq, Int.reduceBNe, Int.reduceLT, Int.reduceLE, Int.reduceEq, Int.reduceGT, Int.reduceGE, Int.reduceToNat, ↓reduceIte, List.reduceReplicate, Nat.reduceAdd, Nat.reduceSub, Nat.reduceMul, Nat.reduceLT, Nat.reduceLeDiff, Nat.reduceBEq, Nat.reduceEqDiff]
  | true =>
  have hcM := (hcourse M).2 ⟨hway, hpos⟩
  have hlt3 := hlt.2 ⟨M, hcM⟩
  obtain ⟨rfl, rfl⟩ : e = 0 ∧ l0 = LV := by
    rcases he with ⟨_, h1, h2, _⟩ | ⟨h, _⟩
    · exact ⟨h1, h2⟩
    · exact absurd hlt3 h
  have hle := hll M hcM
  rw [htot M hcM] at hle
  have hbM := hbd M d.rs.length (Nat.le_refl _)
  have hmW := fun x n hn => hmw x n hn
  have hmM : ∀ n, d.dSum M d.rs.length ≤ n → n < NV → M.getD t0 0 ∈ d.wthL t0 n := fun n h1 h2 => (hmw _ n h2).2 ⟨M, hcM, rfl, by rw [htot M hcM]; exact h1⟩
  have hLt : L[t0]? = some ((M.getD t0 0 : Nat) : Int) := by rw [hM]; exact zs_get (getD_at (by rw [hway.1]; exact ht0) 0)
  obtain ⟨X, hX⟩ : ∃ X, M.getD t0 0 = X := ⟨_, rfl⟩
  rw [hX] at hmM hLt
  obtain ⟨n, hn⟩ : ∃ n, d.dSum M d.rs.length = n := ⟨_, rfl⟩
  rw [hn] at hle hbM hmM
  rw [hn]
  have hNV : NV = 1073741824 := rfl
  have q1 : (n < l0) = False := eq_false (by omega)
  have q2 : (n > 1200) = False := eq_false (by omega)
  have q3 : wr (n + more) = n + more := wrap_id (by omega)
  obtain ⟨n2, hn2⟩ : ∃ n2, min (n + more) 1200 = n2 := ⟨_, rfl⟩
  have hn2b : n ≤ n2 ∧ n2 ≤ 1200 := by omega
  have hw1 := hwi n ((inB_iff _ _ _).2 (by omega))
  have hw2 := hwi n2 ((inB_iff _ _ _).2 (by omega))
  obtain ⟨A1, hA1⟩ : ∃ A1, d.wthL t0 n = A1 := ⟨_, rfl⟩
  obtain ⟨A2, hA2⟩ : ∃ A2, d.wthL t0 n2 = A2 := ⟨_, rfl⟩
  have hsub : ∀ x, x ∈ A1 → x ∈ A2 := fun x hx => by
    rw [← hA1] at hx
    rw [← hA2]
    obtain ⟨M', h1, h2, h3⟩ := (hmw x n (by omega)).1 hx
    exact (hmw x n2 (by omega)).2 ⟨M', h1, h2, by omega⟩
  have hXA : X ∈ A1 := by rw [← hA1]; exact hmM n (Int.le_refl _) (by omega)
  have hAl : ∀ k, (d.wthL t0 k).length ≤ 1000 := fun k => Nat.le_trans (chpL_len _ _ _) (by omega)
  have hA1l := hAl n
  have hA2l := hAl n2
  rw [hA1] at hw1 hA1l
  rw [hA2] at hw2 hA2l
  have hz1 := zs_len A1
  have hz2 := zs_len A2
  have hin1 := fun (w' : World) (vx : Value) (hs : Sl w' vx 1 (ints (zs A1))) => in3_fn w' vx (zs A1) X hs (by omega)
  rw [decide_eq_true (mem_zs.2 hXA)] at hin1
  have hin2 := fun (x : Nat) (hx : x ∈ A1) (w' : World) (vx : Value) (hs : Sl w' vx 1 (ints (zs A2))) => by
    have h := in3_fn w' vx (zs A2) x hs (by omega)
    rw [decide_eq_true (mem_zs.2 (hsub x hx))] at h
    exact h
  refine ⟨?_⟩
  simp (config := { maxSteps := 4000000 }) only [↓sx0, ↓sx1, ↓sx2, ↓sx3, ↓sx4, ↓sx5, ↓sx6, sx0, sx1, sx2, sx3, sx4, sx5, sx6, tf11, ev3_hold, sxo, sxc, sxp, sxq, sxr, sxs, sxl, sxm, Int.reduceBEq, Int.reduceBNe, Int.reduceLT, Int.reduceLE, Int.reduceEq, Int.reduceGT, Int.reduceGE, Int.reduceToNat, ↓reduceIte, List.reduceReplicate, Nat.reduceAdd, Nat.reduceSub, Nat.reduceMul, Nat.reduceLT, Nat.reduceLeDiff, Nat.reduceBEq, Nat.reduceEqDiff, q1, q2, dn]
  refine CallOb.pureH (fun w' hp => hw1 _ w' hp) ?_
  rintro q N7 ⟨x7, rfl, hG7⟩
  obtain ⟨a7, c7, rfl⟩ := hG7.shape
  refine ⟨?_⟩
  simp (config := { maxSteps := 4000000 }) only [↓sx0, ↓sx1, ↓sx2, ↓sx3, ↓sx4, ↓sx5, ↓sx6, sx0, sx1, sx2, sx3, sx4, sx5, sx6, tf11, ev3_hold, sxo, sxc, sxp, sxq, sxr, sxs, sxl, sxm, Int.reduceBEq, Int.reduceBNe, Int.reduceLT, Int.reduceLE, Int.reduceEq, Int.reduceGT, Int.reduceGE, Int.reduceToNat, ↓reduceIte, List.reduceReplicate, Nat.reduceAdd, Nat.reduceSub, Nat.reduceMul, Nat.reduceLT, Nat.reduceLeDiff, Nat.reduceBEq, Nat.reduceEqDiff, q3, hn2, dn]
  refine CallOb.pureH (fun w' hp => hw2 _ w' hp) ?_
  rintro q N8 ⟨x8, rfl, hG8⟩
  obtain ⟨a8, c8, rfl⟩ := hG8.shape
  refine ⟨?_⟩
  simp (config := { maxSteps := 4000000 }) only [↓sx0, ↓sx1, ↓sx2, ↓sx3, ↓sx4, ↓sx5, ↓sx6, sx0, sx1, sx2, sx3, sx4, sx5, sx6, tf11, ev3_hold, sxo, sxc, sxp, sxq, sxr, sxs, sxl, sxm, Int.reduceBEq, Int.reduceBNe, Int.reduceLT, Int.reduceLE, Int.reduceEq, Int.reduceGT, Int.reduceGE, Int.reduceToNat, ↓reduceIte, List.reduceReplicate, Nat.reduceAdd, Nat.reduceSub, Nat.reduceMul, Nat.reduceLT, Nat.reduceLeDiff, Nat.reduceBEq, Nat.reduceEqDiff, dn]
  refine at_1 (hrL _) i1_len hLt rfl fun ad1 => ?_
  simp (config := { maxSteps := 4000000 }) only [↓sx0, ↓sx1, ↓sx2, ↓sx3, ↓sx4, ↓sx5, ↓sx6, sx0, sx1, sx2, sx3, sx4, sx5, sx6, tf11, ev3_hold, sxo, sxc, sxp, sxq, sxr, sxs, sxl, sxm, Int.reduceBEq, Int.reduceBNe, Int.reduceLT, Int.reduceLE, Int.reduceEq, Int.reduceGT, Int.reduceGE, Int.reduceToNat, ↓reduceIte, List.reduceReplicate, Nat.reduceAdd, Nat.reduceSub, Nat.reduceMul, Nat.reduceLT, Nat.reduceLeDiff, Nat.reduceBEq, Nat.reduceEqDiff, dn]
  refine CallOb.pureH (fun w' hp => hin1 w' _ (hG7.hp (fun h hh => by simp [hh]) hp)) ?_
  rintro q N9 rfl
  obtain ⟨K2, hK2⟩ : ∃ K2, N9 ++ (N8 ++ (N7 ++ (N6 ++ H3))) = K2 := ⟨_, rfl⟩
  have hG7 := hG7.mono (N' := K2) (fun h hh => by rw [← hK2]; simp [hh])
  have hG8 := hG8.mono (N' := K2) (fun h hh => by rw [← hK2]; simp [hh])
  rw [hK2]
  refine ⟨?_⟩
  simp (config := { maxSteps := 4000000 }) only [↓sx0, ↓sx1, ↓sx2, ↓sx3, ↓sx4, ↓sx5, ↓sx6, sx0, sx1, sx2, sx3, sx4, sx5, sx6, tf11, ev3_hold, sxo, sxc, sxp, sxq, sxr, sxs, sxl, sxm, Int.reduceBEq, Int.reduceBNe, Int.reduceLT, Int.reduceLE, Int.reduceEq, Int.reduceGT, Int.reduceGE, Int.reduceToNat, ↓reduceIte, List.reduceReplicate, Nat.reduceAdd, Nat.reduceSub, Nat.reduceMul, Nat.reduceLT, Nat.reduceLeDiff, Nat.reduceBEq, Nat.reduceEqDiff]
  refine loop_constH K2 (HImp.refl _ _) [(6, 6), (26, 26), (184, 196)] (fun i : Nat => [(26, I i)]) (fun i H1 => i ≤ (zs A1).length ∧ H1 = K2) (fun i => (zs A1).length - i) 0 ?_ ⟨Nat.zero_le _, rfl⟩ ?_
  · simp (config := { maxSteps := 4000000 }) only [↓sx0, ↓sx1, ↓sx2, ↓sx3, ↓sx4, ↓sx5, ↓sx6, sx0, sx1, sx2, sx3, sx4, sx5, sx6, tf11, ev3_hold, sxo, sxc, sxp, sxq, sxr, sxs, sxl, sxm, Int.reduceBEq, Int.reduceBNe, Int.reduceLT, Int.reduceLE, Int.reduceEq, Int.reduceGT, Int.reduceGE, Int.reduceToNat, ↓reduceIte, List.reduceReplicate, Nat.reduceAdd, Nat.reduceSub, Nat.reduceMul, Nat.reduceLT, Nat.reduceLeDiff, Nat.reduceBEq, Nat.reduceEqDiff]
    try simp
  rintro i H1 g1 ⟨hi, rfl⟩
  by_cases hie : i = (zs A1).length
  · have e7 : ((i : Int) < ((zs A1).length : Int)) = False := eq_false (by omega)
    refine ⟨?_⟩
    simp (config := { maxSteps := 4000000 }) only [↓sx0, ↓sx1, ↓sx2, ↓sx3, ↓sx4, ↓sx5, ↓sx6, sx0, sx1, sx2, sx3, sx4, sx5, sx6, tf11, ev3_hold, sxo, sxc, sxp, sxq, sxr, sxs, sxl, sxm, Int.reduceBEq, Int.reduceBNe, Int.reduceLT, Int.reduceLE, Int.reduceEq, Int.reduceGT, Int.reduceGE, Int.reduceToNat, ↓reduceIte, List.reduceReplicate, Nat.reduceAdd, Nat.reduceSub, Nat.reduceMul, Nat.reduceLT, Nat.reduceLeDiff, Nat.reduceBEq, Nat.reduceEqDiff, e7, dn]
    refine CallOb.pureH (fun w' hp => hwk _ w' hp) ?_
    rintro q N9 rfl
    refine ⟨?_⟩
    simp (config := { maxSteps := 4000000 }) only [↓sx0, ↓sx1, ↓sx2, ↓sx3, ↓sx4, ↓sx5, ↓sx6, sx0, sx1, sx2, sx3, sx4, sx5, sx6, tf11, ev3_hold, sxo, sxc, sxp, sxq, sxr, sxs, sxl, sxm, Int.reduceBEq, Int.reduceBNe, Int.reduceLT, Int.reduceLE, Int.reduceEq, Int.reduceGT, Int.reduceGE, Int.reduceToNat, ↓reduceIte, List.reduceReplicate, Nat.reduceAdd, Nat.reduceSub, Nat.reduceMul, Nat.reduceLT, Nat.reduceLeDiff, Nat.reduceBEq, Nat.reduceEqDiff]
  have e7 : ((i : Int) < ((zs A1).length : Int)) = True := eq_true (by omega)
  have e8 : wr (i + 1) = ((i + 1 : Nat) : Int) := (wrap_id (by omega)).trans (by omega)
  obtain ⟨x, hx⟩ : ∃ x, A1[i]? = some x := ⟨_, List.getElem?_eq_getElem (by omega)⟩
  have hxz := zs_get hx
  have hin2x := hin2 x (List.mem_of_getElem? hx)
  refine ⟨?_⟩
  simp (config := { maxSteps := 4000000 }) only [↓sx0, ↓sx1, ↓sx2, ↓sx3, ↓sx4, ↓sx5, ↓sx6, sx0, sx1, sx2, sx3, sx4, sx5, sx6, tf11, ev3_hold, sxo, sxc, sxp, sxq, sxr, sxs, sxl, sxm, Int.reduceBEq, Int.reduceBNe, Int.reduceLT, Int.reduceLE, Int.reduceEq, Int.reduceGT, Int.reduceGE, Int.reduceToNat, ↓reduceIte, List.reduceReplicate, Nat.reduceAdd, Nat.reduceSub, Nat.reduceMul, Nat.reduceLT, Nat.reduceLeDiff, Nat.reduceBEq, Nat.reduceEqDiff, e7]
  refine amid (at_1 (hG7.rdv i1_len (fun h hh => hh)) i1_len hxz rfl fun ad2 => ?_)
  simp (config := { maxSteps := 4000000 }) only [↓sx0, ↓sx1, ↓sx2, ↓sx3, ↓sx4, ↓sx5, ↓sx6, sx0, sx1, sx2, sx3, sx4, sx5, sx6, tf11, ev3_hold, sxo, sxc, sxp, sxq, sxr, sxs, sxl, sxm, Int.reduceBEq, Int.reduceBNe, Int.reduceLT, Int.reduceLE, Int.reduceEq, Int.reduceGT, Int.reduceGE, Int.reduceToNat, ↓reduceIte, List.reduceReplicate, Nat.reduceAdd, Nat.reduceSub, Nat.reduceMul, Nat.reduceLT, Nat.reduceLeDiff, Nat.reduceBEq, Nat.reduceEqDiff, dn]
  refine CallOb.pureH (fun w' hp => hin2x w' _ (hG8.hp (fun h hh => hh) hp)) ?_
  rintro q N10 rfl
  refine ⟨?_⟩
  simp (config := { maxSteps := 4000000 }) only [↓sx0, ↓sx1, ↓sx2, ↓sx3, ↓sx4, ↓sx5, ↓sx6, sx0, sx1, sx2, sx3, sx4, sx5, sx6, tf11, ev3_hold, sxo, sxc, sxp, sxq, sxr, sxs, sxl, sxm, Int.reduceBEq, Int.reduceBNe, Int.reduceLT, Int.reduceLE, Int.reduceEq, Int.reduceGT, Int.reduceGE, Int.reduceToNat, ↓reduceIte, List.reduceReplicate, Nat.reduceAdd, Nat.reduceSub, Nat.reduceMul, Nat.reduceLT, Nat.reduceLeDiff, Nat.reduceBEq, Nat.reduceEqDiff, e8]
  exact ⟨i + 1, _, rfl, HImp.app _ _ _, ⟨by omega, rfl⟩, by omega⟩
end Go.Proofs.YtaloedccoadedaaDoor
