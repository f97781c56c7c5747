/- A part of a proof: the symbolic walk and what it shows of single functions. -/
import Derived.Test.YtaloedccoadedaaDoorSwC
set_option linter.all false
namespace Go.Proofs.YtaloedccoadedaaDoor
open Go.RowKit Go.SX
set_option maxRecDepth 20000
set_option maxHeartbeats 0
set_option linter.unusedSimpArgs false
set_option linter.unusedVariables false
def ThrP (g : Crs) (q : Value) (N : List HO) : Prop := ∃ al cl qs, q = .slice (some al) g.T cl ∧ HO.row (.slice (some al) g.T cl) 22 1 (cat lpc qs) ∈ N ∧ HasR g.n g.T qs g.thr N
theorem rthrough_fn (w : World) (hw : Ways w) (v vm vc vu : Value) (d : Dis) (hd : DsOk w v d) (hE : d.E = 0) (hm : LLOk i1 1 w vm (apL d.c)) (count must : Nat → Bool) (hcn : Sl w vc 1 (cat b1 (rowF d.rs.length count))) (hmu : Sl w vu 1 (cat b1 (rowF d.rs.length must))) :
    SX.Fn Tryd.prog 66 [v, vm, vc, vu] w (fun _ => False) (ThrP (d.crs (d.prc count must))) := by
  have hd0 := hd
  have hm0 := hm
  have hgo := Dis.crs_ok hE (Dis.prc_ok hE count must)
  obtain ⟨hok, hdr, hpc, hm12, hrep⟩ := Dis.E_zero hE
  have hrows := fun (H : List HO) w' (hp : Hp ⟨w, fun _ => False⟩ H w') => rrows_fn w' (hw.hp hp) v vm vc vu d (hd0.hp hp) hE (hm0.hp hp) count must (hcn.hp (fun _ _ => id) hp) (hmu.hp (fun _ _ => id) hp)
  have hown := fun (k t : Nat) (hk : k < d.c.depth.length) (ht : t < d.c.tide.length) (H : List HO) w' (hp : Hp ⟨w, fun _ => False⟩ H w') => rown_fn w' (hw.hp hp) v vm vc vu d (hd0.hp hp) hE (hm0.hp hp) count must (hcn.hp (fun _ _ => id) hp) (hmu.hp (fun _ _ => id) hp) k t hk ht
  obtain ⟨_, _, hW, hH, hlen⟩ := hok.dims
  have h144 : d.c.depth.length ≤ 144 := by rw [hlen]; exact Nat.le_trans (Nat.mul_le_mul hW.2 hH.2) (by decide)
  have hT60 := hok.2.2.2.1
  have hT1 : 1 ≤ d.c.tide.length := hgo.T1
  have hnr : ∀ i k, i < d.c.depth.length → k < d.c.depth.length → (d.crs (d.prc count must)).nr i k = decide ((dst d.c.W d.c.H i k : Int) ≤ d.pc) := fun i k hi hk => by
    show (decide (i < d.c.depth.length ∧ k < d.c.depth.length) && _) = _
    rw [decide_eq_true ⟨hi, hk⟩, Bool.true_and]
  have hgn : (d.crs (d.prc count must)).n = d.c.depth.length := rfl
  have hgT : (d.crs (d.prc count must)).T = d.c.tide.length := rfl
  obtain ⟨pa, aA, cA, rfl, hal, hsA, hAt⟩ := hm.at i1_len (by decide)
  have hAl : (apL d.c).length = d.c.depth.length := rowF_len _ _
  have hapl : ∀ k, (apRow d.c k).length = d.c.depth.length := fun k => rowF_len _ _
  have hAg := fun i (h : i < d.c.depth.length) => hAt i _ (ap_get d.c h)
  have hA2 := fun i k (h : k < d.c.depth.length) => ap_get2 d.c i h
  simp only [hapl] at hAg
  rw [hAl] at hsA hal hown hrows ⊢
  obtain ⟨sD, sT, sS, sR, rfl, hc, hsR⟩ := hd
  have hD := detR_ok (X := fun _ => False) hw hc (fun _ _ => id)
  obtain ⟨_, _, _, hh, hsD, hsT, hsS⟩ := hc
  cases hh
  obtain ⟨aT, nT, cT, rfl⟩ := hsT.shape
  have hnT := hsT.le spc_len (by omega)
  subst hnT
  have dn : (∀ xs, detR (.agg #[I d.c.wide, I d.c.high, sD, .slice aT d.c.tide.length cT, sS]) d.c 94 xs = none) ∧ (∀ xs, detR (.agg #[I d.c.wide, I d.c.high, sD, .slice aT d.c.tide.length cT, sS]) d.c 90 xs = none) := ⟨fun _ => rfl, fun _ => rfl⟩
  obtain ⟨g, hg⟩ : ∃ g, d.crs (d.prc count must) = g := ⟨_, rfl⟩
  rw [hg] at hgo hgn hgT ⊢
  simp only [hg] at hown hnr hrows
  have hbd := fun t (ht : t ≤ g.T) x => Crs.bef_bd hgo t x ht
  have hsm := fun t (ht : t ≤ g.T) => hgo.small (k := t) ht
  have hsy := hgo.sym
  have hmb := fun (k : Nat) (hk : k + 1 ≤ g.T) (x : Nat) => Crs.mins_bd (g := g) (row := g.onw k) (fun y _ => (onw_pos hgo hk y).1) x
  have hcb := fun t x => cost_pos hgo t x
  have hob := fun (k : Nat) (hk : k + 1 ≤ g.T) (x : Nat) => onw_pos hgo hk x
  have hmt := fun row i k => g.mins_top row i k
  have honw : ∀ k x, g.onw (k + 1) x = min NV (g.cost (g.T - 1 - (k + 1)) x + g.mins (g.onw k) x g.n) := fun _ _ => rfl
  have honw0 : ∀ x, g.onw 0 x = g.cost (g.T - 1) x := fun _ => rfl
  have hmz : ∀ row i, g.mins row i 0 = NV := fun _ _ => rfl
  have hms : ∀ row i k, g.mins row i (k + 1) = if g.nr i k = true ∧ row k < g.mins row i k then row k else g.mins row i k := fun _ _ _ => rfl
  have hbe0 : ∀ x, g.bef 0 x = 0 := fun _ => rfl
  have hbes : ∀ t x, g.bef (t + 1) x = g.mins (fun y => min NV (g.bef t y + g.cost t y)) x g.n := fun _ _ => rfl
  have hbp : ∀ t, t ≤ g.T → ∀ x, 0 ≤ g.bef t x ∧ g.bef t x ≤ NV := fun t ht x => by
    have h1 := hbd t ht x
    have h2 := hsm t ht
    have : (0 : Int) ≤ NV := by decide
    omega
  have hth : ∀ t x, g.thr t x = min NV (g.bef t x + g.onw (g.T - 1 - t) x) := fun _ _ => rfl
  unfold RowsP at hrows
  unfold ThrP
  rw [hgn] at honw hmb
  rw [hgT] at honw honw0 hmb hob
  simp only [hgn, hgT] at hrows ⊢
  rw [hgn] at hbes hsy
  rw [hgT] at hbp hth
  obtain ⟨n, hn⟩ : ∃ n, d.c.depth.length = n := ⟨_, rfl⟩
  obtain ⟨T, hTe⟩ : ∃ T, d.c.tide.length = T := ⟨_, rfl⟩
  rw [hn] at hbes hsy hrows hmb honw hal hsA hown hnr hAg hA2 h144 hgn ⊢
  rw [hTe] at hbp hth hrows hmb hob honw honw0 hown hT60 hT1 hD dn hgT ⊢
  have hrA := fun H => hsA.rd0 H
  have hrA := fun H => hsA.rd0 H
  have hrow : ∀ (bl : Nat) (ps : List (Lp Int)), ps.length = T → ∀ H : List HO, HO.row (.slice (some ⟨bl, 0, none⟩) T T) 22 1 (cat lpc ps) ∈ H → Rdv ⟨w, fun _ => False⟩ H (.slice (some ⟨bl, 0, none⟩) T T) 1 (cat lpc ps) := fun bl ps hps H h => row_rdv (w0 := ⟨w, fun _ => False⟩) h ⟨_, _, _, rfl, by rw [cat_len lpc_len, hps], fun h => by cases h⟩
  have hset : ∀ (O : Nat → Int) (i : Nat), (rowF n fun x => if x < i then O x else 0).set i (O i) = rowF n fun x => if x < i + 1 then O x else 0 := fun O i => by
    rw [rowF_set]
    refine rowF_congr fun x hx => ?_
    by_cases e : x = i
    · rw [if_pos e, if_pos (by omega), e]
    · rw [if_neg e]
      by_cases h : x < i
      · rw [if_pos h, if_pos (by omega)]
      · rw [if_neg h, if_neg (by omega)]
  have hz : ∀ O : Nat → Int, zerosL n [Value.int IntKind.i64 0] = ints (rowF n fun x => if x < 0 then O x else 0) := fun O => by
    rw [show zerosL n [Value.int IntKind.i64 0] = ints (List.replicate n 0) from zeros_cat i1 0 n, rowF_rep]
    rfl
  refine walkC [40] [] [] hD Tryd.func66 rfl Tryd.ntmps66 res66 (by kernel_rfl) no_facts ?_
  simp (config := { maxSteps := 4000000 }) only [↓sx0, ↓sx1, ↓sx2, ↓sx3, ↓sx4, ↓sx5, ↓sx6, sx0, sx1, sx2, sx3, sx4, sx5, sx6, tf66, ev3_hold, sxo, sxc, sxp, sxq, sxr, sxs, sxl, sxm, Int.reduceBEq, Int.reduceBNe, Int.reduceLT, Int.reduceLE, Int.reduceEq, Int.reduceGT, Int.reduceGE, Int.reduceToNat, ↓reduceIte, List.reduceReplicate, Nat.reduceAdd, Nat.reduceSub, Nat.reduceMul, Nat.reduceLT, Nat.reduceLeDiff, Nat.reduceBEq, Nat.reduceEqDiff, dn]
  refine CallOb.pureH (fun w' hp => hrows _ w' hp) ?_
  rintro q K ⟨al, cl, qa, rfl, hqa, hHa⟩
  have hra := fun (H : List HO) (h : ∀ h ∈ K, h ∈ H) => row_rdv (w0 := ⟨w, fun _ => False⟩) (h _ hqa) ⟨_, _, _, rfl, by rw [cat_len lpc_len, hHa.1], fun h => by cases h⟩
  rw [List.append_nil]
  refine ⟨?_⟩
  simp (config := { maxSteps := 4000000 }) only [↓sx0, ↓sx1, ↓sx2, ↓sx3, ↓sx4, ↓sx5, ↓sx6, sx0, sx1, sx2, sx3, sx4, sx5, sx6, tf66, ev3_hold, sxo, sxc, sxp, sxq, sxr, sxs, sxl, sxm, Int.reduceBEq, Int.reduceBNe, Int.reduceLT, Int.reduceLE, Int.reduceEq, Int.reduceGT, Int.reduceGE, Int.reduceToNat, ↓reduceIte, List.reduceReplicate, Nat.reduceAdd, Nat.reduceSub, Nat.reduceMul, Nat.reduceLT, Nat.reduceLeDiff, Nat.reduceBEq, Nat.reduceEqDiff]
  refine ⟨by omega, by omega, by omega, fun bl => ?_⟩
  have hz0 : zerosL T [Value.slice none 0 0] = cat lpc (List.replicate T (([], none, 0, 0) : Lp Int)) := zeros_cat lpc ([], none, 0, 0) T
  refine loop_constH (HO.row (.slice (some ⟨bl, 0, none⟩) T T) 22 1 (cat lpc (List.replicate T (([], none, 0, 0) : Lp Int))) :: K) (by rw [← hz0]; exact HImp.refl _ _) [(11, 16), (25, 99)] (fun q : Nat × List (Lp Int) × Value => [(11, q.2.2), (12, I q.1)])
    (fun q H1 => q.1 ≤ T ∧ q.2.1.length = T ∧ ∃ D, H1 = HO.row (.slice (some ⟨bl, 0, none⟩) T T) 22 1 (cat lpc q.2.1) :: D ∧ (∀ h ∈ K, h ∈ D) ∧ (∀ s, s < q.1 → ∃ a, q.2.1[s]? = some (rowF n (g.thr s), some a, n, n) ∧ HO.row (.slice (some a) n n) 3 1 (ints (rowF n (g.thr s))) ∈ D) ∧ ∀ s, q.1 = s + 1 → ∃ bb, q.2.2 = .slice (some ⟨bb, 0, none⟩) n n ∧ HO.row (.slice (some ⟨bb, 0, none⟩) n n) 3 1 (ints (rowF n fun y => min NV (g.bef s y + g.cost s y))) ∈ D) (fun q => T - q.1) (0, List.replicate T ([], none, 0, 0), .slice none 0 0) ?_ ⟨Nat.zero_le _, by simp only [List.length_replicate], K, rfl, fun h hh => hh, (fun s h => absurd h (Nat.not_lt_zero _)), fun s h => by simp only [] at h; omega⟩ ?_
  · simp (config := { maxSteps := 4000000 }) only [↓sx0, ↓sx1, ↓sx2, ↓sx3, ↓sx4, ↓sx5, ↓sx6, sx0, sx1, sx2, sx3, sx4, sx5, sx6, tf66, ev3_hold, sxo, sxc, sxp, sxq, sxr, sxs, sxl, sxm, Int.reduceBEq, Int.reduceBNe, Int.reduceLT, Int.reduceLE, Int.reduceEq, Int.reduceGT, Int.reduceGE, Int.reduceToNat, ↓reduceIte, List.reduceReplicate, Nat.reduceAdd, Nat.reduceSub, Nat.reduceMul, Nat.reduceLT, Nat.reduceLeDiff, Nat.reduceBEq, Nat.reduceEqDiff]
    try simp
  rintro ⟨t, qs, vb⟩ H1 g1 hinv
  simp only [] at hinv
  obtain ⟨ht, hql, D, rfl, hKD, hD2, hvb⟩ := hinv
  by_cases htn : t = T
  · have e7 : ((t : Int) < (T : Int)) = False := eq_false (by omega)
    refine ⟨?_⟩
    simp (config := { maxSteps := 4000000 }) only [↓sx0, ↓sx1, ↓sx2, ↓sx3, ↓sx4, ↓sx5, ↓sx6, sx0, sx1, sx2, sx3, sx4, sx5, sx6, tf66, ev3_hold, sxo, sxc, sxp, sxq, sxr, sxs, sxl, sxm, Int.reduceBEq, Int.reduceBNe, Int.reduceLT, Int.reduceLE, Int.reduceEq, Int.reduceGT, Int.reduceGE, Int.reduceToNat, ↓reduceIte, List.reduceReplicate, Nat.reduceAdd, Nat.reduceSub, Nat.reduceMul, Nat.reduceLT, Nat.reduceLeDiff, Nat.reduceBEq, Nat.reduceEqDiff, e7]
    exact ⟨⟨bl, 0, none⟩, T, qs, rfl, List.mem_cons_self, hql, fun s hs => by
      obtain ⟨a, h1, h2⟩ := hD2 s (by omega)
      exact ⟨a, n, h1, List.mem_cons_of_mem _ h2⟩⟩
  have e7 : ((t : Int) < (T : Int)) = True := eq_true (by omega)
  have e8 : wr ((t : Int) + 1) = ((t + 1 : Nat) : Int) := (wrap_id (by omega)).trans (by omega)
  have hlt : t < T := by omega
  have hcs := hcb t
  have hbt := hbp t (by omega)
  have howns := fun k hk => hown k t hk hlt
  have hopt := hob (T - 1 - t) (by omega)
  have htht := hth t
  obtain ⟨aa, ca, hqat, hrat⟩ := hHa.2 t hlt
  obtain ⟨U, hU⟩ : ∃ U, g.thr t = U := ⟨_, rfl⟩
  obtain ⟨V, hV⟩ : ∃ V : Nat → Int, (fun y => min NV (g.bef t y + g.cost t y)) = V := ⟨_, rfl⟩
  have hVi : ∀ i, min NV (g.bef t i + g.cost t i) = V i := fun i => by rw [← hV]
  simp only [hU] at htht
  obtain ⟨P, hP⟩ : ∃ P, g.onw (T - 1 - t) = P := ⟨_, rfl⟩
  simp only [hP] at hopt htht hqat hrat
  have hrat2 := fun (H : List HO) (h : ∀ h ∈ K, h ∈ H) => row_rdv (w0 := ⟨w, fun _ => False⟩) (h _ hrat) ⟨_, _, _, rfl, by rw [cat_len i1_len, rowF_len], fun h => by cases h⟩
  refine ⟨?_⟩
  simp (config := { maxSteps := 4000000 }) only [↓sx0, ↓sx1, ↓sx2, ↓sx3, ↓sx4, ↓sx5, ↓sx6, sx0, sx1, sx2, sx3, sx4, sx5, sx6, tf66, ev3_hold, sxo, sxc, sxp, sxq, sxr, sxs, sxl, sxm, Int.reduceBEq, Int.reduceBNe, Int.reduceLT, Int.reduceLE, Int.reduceEq, Int.reduceGT, Int.reduceGE, Int.reduceToNat, ↓reduceIte, List.reduceReplicate, Nat.reduceAdd, Nat.reduceSub, Nat.reduceMul, Nat.reduceLT, Nat.reduceLeDiff, Nat.reduceBEq, Nat.reduceEqDiff, e7]
  refine ⟨by omega, by omega, by omega, fun b => ⟨by omega, _, rfl, ?_⟩⟩
  refine wr_at (A := [HO.row (.slice (some ⟨b, 0, none⟩) n n) 3 1 (zerosL n [Value.int IntKind.i64 0])]) (B := D) (ad := ⟨bl, 0, none⟩) (len := T) (cap := T) (e := 22) (l := qs) (f := lpc) (u := ((rowF n U, some ⟨b, 0, none⟩, n, n) : Lp Int)) rfl lpc_len hql (by omega) ?_
  obtain ⟨QS, hQS⟩ : ∃ QS, qs.set t ((rowF n U, some ⟨b, 0, none⟩, n, n) : Lp Int) = QS := ⟨_, rfl⟩
  have hQl : QS.length = T := by rw [← hQS, List.length_set]; exact hql
  have hQs : QS[t]? = some (rowF n U, some ⟨b, 0, none⟩, n, n) := by rw [← hQS, List.getElem?_set_self (by omega)]
  have hQo : ∀ u, u ≠ t → QS[u]? = qs[u]? := fun u hu => by rw [← hQS, List.getElem?_set_ne (fun h => hu h.symm)]
  have hrq := hrow bl QS hQl
  rw [hQS]
  simp (config := { maxSteps := 4000000 }) only [↓sx0, ↓sx1, ↓sx2, ↓sx3, ↓sx4, ↓sx5, ↓sx6, sx0, sx1, sx2, sx3, sx4, sx5, sx6, tf66, ev3_hold, sxo, sxc, sxp, sxq, sxr, sxs, sxl, sxm, Int.reduceBEq, Int.reduceBNe, Int.reduceLT, Int.reduceLE, Int.reduceEq, Int.reduceGT, Int.reduceGE, Int.reduceToNat, ↓reduceIte, List.reduceReplicate, Nat.reduceAdd, Nat.reduceSub, Nat.reduceMul, Nat.reduceLT, Nat.reduceLeDiff, Nat.reduceBEq, Nat.reduceEqDiff]
  refine ⟨by omega, by omega, by omega, fun b2 => ?_⟩
  refine loop_constH (HO.row (.slice (some ⟨b2, 0, none⟩) n n) 3 1 (ints (rowF n fun x => if x < 0 then V x else 0)) :: HO.row (.slice (some ⟨b, 0, none⟩) n n) 3 1 (ints (rowF n fun x => if x < 0 then U x else 0)) :: HO.row (.slice (some ⟨bl, 0, none⟩) T T) 22 1 (cat lpc QS) :: D) (by rw [← hz, ← hz]; exact HImp.refl _ _) [(14, 16), (40, 98)] (fun i : Nat => [(14, I i)])
    (fun i H2 => i ≤ n ∧ H2 = HO.row (.slice (some ⟨b2, 0, none⟩) n n) 3 1 (ints (rowF n fun x => if x < i then V x else 0)) :: HO.row (.slice (some ⟨b, 0, none⟩) n n) 3 1 (ints (rowF n fun x => if x < i then U x else 0)) :: HO.row (.slice (some ⟨bl, 0, none⟩) T T) 22 1 (cat lpc QS) :: D) (fun i => n - i) 0 ?_ ⟨Nat.zero_le _, rfl⟩ ?_
  · simp (config := { maxSteps := 4000000 }) only [↓sx0, ↓sx1, ↓sx2, ↓sx3, ↓sx4, ↓sx5, ↓sx6, sx0, sx1, sx2, sx3, sx4, sx5, sx6, tf66, ev3_hold, sxo, sxc, sxp, sxq, sxr, sxs, sxl, sxm, Int.reduceBEq, Int.reduceBNe, Int.reduceLT, Int.reduceLE, Int.reduceEq, Int.reduceGT, Int.reduceGE, Int.reduceToNat, ↓reduceIte, List.reduceReplicate, Nat.reduceAdd, Nat.reduceSub, Nat.reduceMul, Nat.reduceLT, Nat.reduceLeDiff, Nat.reduceBEq, Nat.reduceEqDiff]
    try simp
  rintro i H2 g2 ⟨hi, rfl⟩
  by_cases hin : i = n
  · have f7 : ((i : Int) < (n : Int)) = False := eq_false (by omega)
    have hfull : ∀ O : Nat → Int, (rowF n fun x => if x < i then O x else 0) = rowF n O := fun O => rowF_congr fun x hx => if_pos (by omega)
    rw [hfull, hfull]
    refine ⟨?_⟩
    simp (config := { maxSteps := 4000000 }) only [↓sx0, ↓sx1, ↓sx2, ↓sx3, ↓sx4, ↓sx5, ↓sx6, sx0, sx1, sx2, sx3, sx4, sx5, sx6, tf66, ev3_hold, sxo, sxc, sxp, sxq, sxr, sxs, sxl, sxm, Int.reduceBEq, Int.reduceBNe, Int.reduceLT, Int.reduceLE, Int.reduceEq, Int.reduceGT, Int.reduceGE, Int.reduceToNat, ↓reduceIte, List.reduceReplicate, Nat.reduceAdd, Nat.reduceSub, Nat.reduceMul, Nat.reduceLT, Nat.reduceLeDiff, Nat.reduceBEq, Nat.reduceEqDiff, f7, e8]
    refine ⟨(t + 1, QS, .slice (some ⟨b2, 0, none⟩) n n), _, ⟨rfl, rfl⟩, HImp.perm (List.perm_middle (l₁ := [_, _])), ⟨by simp only []; omega, hQl, _, rfl, fun h hh => List.mem_cons_of_mem _ (List.mem_cons_of_mem _ (hKD h hh)), fun u hu => ?_, fun u hu => ?_⟩, by simp only []; omega⟩
    · simp only [] at hu ⊢
      by_cases e : u = t
      · subst e
        rw [hU]
        exact ⟨_, hQs, by simp⟩
      · obtain ⟨a, k1, k2⟩ := hD2 u (by omega)
        exact ⟨a, by rw [hQo u e]; exact k1, by simp [k2]⟩
    · simp only [] at hu
      have : u = t := by omega
      subst this
      rw [hV]
      exact ⟨b2, rfl, by simp⟩
  have f7 : ((i : Int) < (n : Int)) = True := eq_true (by omega)
  have f8 : wr ((i : Int) + 1) = ((i + 1 : Nat) : Int) := (wrap_id (by omega)).trans (by omega)
  have hiln : i < n := by omega
  have howni := fun H w' hp => howns i hiln H w' hp
  have hci := hcs i
  have hbi := hbt i
  have hVii := hVi i
  have hthi := htht i
  have hPi := hopt i
  obtain ⟨C, hC⟩ : ∃ C, g.cost t i = C := ⟨_, rfl⟩
  rw [hC] at hci howni hVii
  have hbx : ∀ s, t = s + 1 → g.bef t i = g.mins (fun y => min NV (g.bef s y + g.cost s y)) i n := fun s h => by rw [h]; exact hbes s i
  have hb0 : t = 0 → g.bef t i = 0 := fun h => by rw [h]; exact hbe0 i
  obtain ⟨B, hB⟩ : ∃ B, g.bef t i = B := ⟨_, rfl⟩
  rw [hB] at hbi hVii hthi hbx hb0
  obtain ⟨HH, hHH⟩ : ∃ HH, HO.row (.slice (some ⟨b2, 0, none⟩) n n) 3 1 (ints (rowF n fun x => if x < i then V x else 0)) :: HO.row (.slice (some ⟨b, 0, none⟩) n n) 3 1 (ints (rowF n fun x => if x < i then U x else 0)) :: HO.row (.slice (some ⟨bl, 0, none⟩) T T) 22 1 (cat lpc QS) :: D = HH := ⟨_, rfl⟩
  have hmem1 : ∀ h ∈ D, h ∈ HH := fun h hh => by rw [← hHH]; simp [hh]
  rw [hHH]
  refine ⟨?_⟩
  simp (config := { maxSteps := 4000000 }) only [↓sx0, ↓sx1, ↓sx2, ↓sx3, ↓sx4, ↓sx5, ↓sx6, sx0, sx1, sx2, sx3, sx4, sx5, sx6, tf66, ev3_hold, sxo, sxc, sxp, sxq, sxr, sxs, sxl, sxm, Int.reduceBEq, Int.reduceBNe, Int.reduceLT, Int.reduceLE, Int.reduceEq, Int.reduceGT, Int.reduceGE, Int.reduceToNat, ↓reduceIte, List.reduceReplicate, Nat.reduceAdd, Nat.reduceSub, Nat.reduceMul, Nat.reduceLT, Nat.reduceLeDiff, Nat.reduceBEq, Nat.reduceEqDiff, f7]
  refine cut_constH [(15, 16), (46, 69)] (fun _ : Unit => [(15, I B)]) (fun _ H4 => H4 = HH) ?_ ?_
  · cases t with
    | zero =>
      rw [hb0 rfl]
      have e10 : (((0 : Nat) : Int) > 0) = False := eq_false (by omega)
      refine ⟨?_⟩
      simp (config := { maxSteps := 4000000 }) only [↓sx0, ↓sx1, ↓sx2, ↓sx3, ↓sx4, ↓sx5, ↓sx6, sx0, sx1, sx2, sx3, sx4, sx5, sx6, tf66, ev3_hold, sxo, sxc, sxp, sxq, sxr, sxs, sxl, sxm, Int.reduceBEq, Int.reduceBNe, Int.reduceLT, Int.reduceLE, Int.reduceEq, Int.reduceGT, Int.reduceGE, Int.reduceToNat, ↓reduceIte, List.reduceReplicate, Nat.reduceAdd, Nat.reduceSub, Nat.reduceMul, Nat.reduceLT, Nat.reduceLeDiff, Nat.reduceBEq, Nat.reduceEqDiff, e10]
      exact ⟨(), _, HImp.refl _ _, rfl⟩
    | succ s =>
    obtain ⟨bb, rfl, hrb⟩ := hvb s rfl
    have hBe := hbx s rfl
    obtain ⟨F, hF⟩ : ∃ F : Nat → Int, (fun y => min NV (g.bef s y + g.cost s y)) = F := ⟨_, rfl⟩
    rw [hF] at hrb hBe
    have hmsi := hms F i
    have hmzi := hmz F i
    have hrb2 := row_rdv (w0 := ⟨w, fun _ => False⟩) (H := HH) (hmem1 _ hrb) ⟨_, _, _, rfl, by rw [cat_len i1_len, rowF_len], fun h => by cases h⟩
    have e10 : (((s + 1 : Nat) : Int) > 0) = True := eq_true (by omega)
    refine ⟨?_⟩
    simp (config := { maxSteps := 4000000 }) only [↓sx0, ↓sx1, ↓sx2, ↓sx3, ↓sx4, ↓sx5, ↓sx6, sx0, sx1, sx2, sx3, sx4, sx5, sx6, tf66, ev3_hold, sxo, sxc, sxp, sxq, sxr, sxs, sxl, sxm, Int.reduceBEq, Int.reduceBNe, Int.reduceLT, Int.reduceLE, Int.reduceEq, Int.reduceGT, Int.reduceGE, Int.reduceToNat, ↓reduceIte, List.reduceReplicate, Nat.reduceAdd, Nat.reduceSub, Nat.reduceMul, Nat.reduceLT, Nat.reduceLeDiff, Nat.reduceBEq, Nat.reduceEqDiff, e10]
    refine loop_constH HH (HImp.refl _ _) [(15, 16), (48, 69)] (fun k : Nat => [(15, I (g.mins F i k)), (16, I k)]) (fun k H5 => k ≤ n ∧ H5 = HH) (fun k => n - k) 0 ?_ ⟨Nat.zero_le _, rfl⟩ ?_
    · simp (config := { maxSteps := 4000000 }) only [↓sx0, ↓sx1, ↓sx2, ↓sx3, ↓sx4, ↓sx5, ↓sx6, sx0, sx1, sx2, sx3, sx4, sx5, sx6, tf66, ev3_hold, sxo, sxc, sxp, sxq, sxr, sxs, sxl, sxm, Int.reduceBEq, Int.reduceBNe, Int.reduceLT, Int.reduceLE, Int.reduceEq, Int.reduceGT, Int.reduceGE, Int.reduceToNat, ↓reduceIte, List.reduceReplicate, Nat.reduceAdd, Nat.reduceSub, Nat.reduceMul, Nat.reduceLT, Nat.reduceLeDiff, Nat.reduceBEq, Nat.reduceEqDiff]
      try simp [hmzi, NV]
    rintro k H5 g5 ⟨hk, rfl⟩
    by_cases hkn : k = n
    · have k7 : ((k : Int) < (n : Int)) = False := eq_false (by omega)
      rw [hkn]
      rw [hkn] at k7
      rw [← hBe]
      refine ⟨?_⟩
      simp (config := { maxSteps := 4000000 }) only [↓sx0, ↓sx1, ↓sx2, ↓sx3, ↓sx4, ↓sx5, ↓sx6, sx0, sx1, sx2, sx3, sx4, sx5, sx6, tf66, ev3_hold, sxo, sxc, sxp, sxq, sxr, sxs, sxl, sxm, Int.reduceBEq, Int.reduceBNe, Int.reduceLT, Int.reduceLE, Int.reduceEq, Int.reduceGT, Int.reduceGE, Int.reduceToNat, ↓reduceIte, List.reduceReplicate, Nat.reduceAdd, Nat.reduceSub, Nat.reduceMul, Nat.reduceLT, Nat.reduceLeDiff, Nat.reduceBEq, Nat.reduceEqDiff, k7]
      exact ⟨(), _, HImp.refl _ _, rfl⟩
    have k7 : ((k : Int) < (n : Int)) = True := eq_true (by omega)
    have k8 : wr ((k : Int) + 1) = ((k + 1 : Nat) : Int) := (wrap_id (by omega)).trans (by omega)
    have hkln : k < n := by omega
    have hnrk := hnr k i hkln hiln
    rw [← hsy i k hiln hkln] at hnrk
    have hmsk := hmsi k
    have hFk : (rowF n F)[k]? = some (F k) := rowF_get _ hkln
    have hAk := hA2 k i hiln
    obtain ⟨ak, ck, hpk, hsk⟩ := hAg k hkln
    have hrk := fun H => hsk.rd0 H
    obtain ⟨Z, hZ⟩ : ∃ Z : Int, ((dst d.c.W d.c.H k i : Nat) : Int) = Z := ⟨_, rfl⟩
    rw [hZ] at hnrk hAk
    refine ⟨?_⟩
    simp (config := { maxSteps := 4000000 }) only [↓sx0, ↓sx1, ↓sx2, ↓sx3, ↓sx4, ↓sx5, ↓sx6, sx0, sx1, sx2, sx3, sx4, sx5, sx6, tf66, ev3_hold, sxo, sxc, sxp, sxq, sxr, sxs, sxl, sxm, Int.reduceBEq, Int.reduceBNe, Int.reduceLT, Int.reduceLE, Int.reduceEq, Int.reduceGT, Int.reduceGE, Int.reduceToNat, ↓reduceIte, List.reduceReplicate, Nat.reduceAdd, Nat.reduceSub, Nat.reduceMul, Nat.reduceLT, Nat.reduceLeDiff, Nat.reduceBEq, Nat.reduceEqDiff, k7]
    refine amid (at_1 (hrA _) lpc_len hpk (show lpc _ = [Value.slice ak n ck] from rfl) fun ad1 => ?_)
    simp (config := { maxSteps := 4000000 }) only [↓sx0, ↓sx1, ↓sx2, ↓sx3, ↓sx4, ↓sx5, ↓sx6, sx0, sx1, sx2, sx3, sx4, sx5, sx6, tf66, ev3_hold, sxo, sxc, sxp, sxq, sxr, sxs, sxl, sxm, Int.reduceBEq, Int.reduceBNe, Int.reduceLT, Int.reduceLE, Int.reduceEq, Int.reduceGT, Int.reduceGE, Int.reduceToNat, ↓reduceIte, List.reduceReplicate, Nat.reduceAdd, Nat.reduceSub, Nat.reduceMul, Nat.reduceLT, Nat.reduceLeDiff, Nat.reduceBEq, Nat.reduceEqDiff]
    refine at_1 (hrk _) i1_len hAk rfl fun ad2 => ?_
    by_cases hzp : Z ≤ d.pc
    · have q1 : (Z ≤ d.pc) = True := eq_true hzp
      rw [decide_eq_true hzp] at hnrk
      have hnew : min (g.mins F i k) (F k) = g.mins F i (k + 1) := by
        rw [hmsk, hnrk]
        by_cases hlt2 : F k < g.mins F i k
        · rw [if_pos ⟨rfl, hlt2⟩]
          omega
        · rw [if_neg (fun h => hlt2 h.2)]
          omega
      simp (config := { maxSteps := 4000000 }) only [↓sx0, ↓sx1, ↓sx2, ↓sx3, ↓sx4, ↓sx5, ↓sx6, sx0, sx1, sx2, sx3, sx4, sx5, sx6, tf66, ev3_hold, sxo, sxc, sxp, sxq, sxr, sxs, sxl, sxm, Int.reduceBEq, Int.reduceBNe, Int.reduceLT, Int.reduceLE, Int.reduceEq, Int.reduceGT, Int.reduceGE, Int.reduceToNat, ↓reduceIte, List.reduceReplicate, Nat.reduceAdd, Nat.reduceSub, Nat.reduceMul, Nat.reduceLT, Nat.reduceLeDiff, Nat.reduceBEq, Nat.reduceEqDiff, q1]
      refine at_1 hrb2 i1_len hFk rfl fun ad4 => ?_
      simp (config := { maxSteps := 4000000 }) only [↓sx0, ↓sx1, ↓sx2, ↓sx3, ↓sx4, ↓sx5, ↓sx6, sx0, sx1, sx2, sx3, sx4, sx5, sx6, tf66, ev3_hold, sxo, sxc, sxp, sxq, sxr, sxs, sxl, sxm, Int.reduceBEq, Int.reduceBNe, Int.reduceLT, Int.reduceLE, Int.reduceEq, Int.reduceGT, Int.reduceGE, Int.reduceToNat, ↓reduceIte, List.reduceReplicate, Nat.reduceAdd, Nat.reduceSub, Nat.reduceMul, Nat.reduceLT, Nat.reduceLeDiff, Nat.reduceBEq, Nat.reduceEqDiff, k8]
      exact ⟨k + 1, _, ⟨by rw [hnew], rfl⟩, HImp.refl _ _, ⟨by omega, rfl⟩, by omega⟩
    · have q1 : (Z ≤ d.pc) = False := eq_false hzp
      rw [decide_eq_false hzp] at hnrk
      have hnew : g.mins F i (k + 1) = g.mins F i k := by
        rw [hmsk, hnrk, if_neg (fun h => by cases h.1)]
      simp (config := { maxSteps := 4000000 }) only [↓sx0, ↓sx1, ↓sx2, ↓sx3, ↓sx4, ↓sx5, ↓sx6, sx0, sx1, sx2, sx3, sx4, sx5, sx6, tf66, ev3_hold, sxo, sxc, sxp, sxq, sxr, sxs, sxl, sxm, Int.reduceBEq, Int.reduceBNe, Int.reduceLT, Int.reduceLE, Int.reduceEq, Int.reduceGT, Int.reduceGE, Int.reduceToNat, ↓reduceIte, List.reduceReplicate, Nat.reduceAdd, Nat.reduceSub, Nat.reduceMul, Nat.reduceLT, Nat.reduceLeDiff, Nat.reduceBEq, Nat.reduceEqDiff, q1, k8]
      exact ⟨k + 1, _, ⟨by rw [hnew], rfl⟩, HImp.refl _ _, ⟨by omega, rfl⟩, by omega⟩
  rintro _ H4 g4 rfl
  have k1 : wr (B + C) = B + C := wrap_id (by unfold NV at *; omega)
  have k2 : wr (B + P i) = B + P i := wrap_id (by unfold NV at *; omega)
  refine ⟨?_⟩
  simp (config := { maxSteps := 4000000 }) only [↓sx0, ↓sx1, ↓sx2, ↓sx3, ↓sx4, ↓sx5, ↓sx6, sx0, sx1, sx2, sx3, sx4, sx5, sx6, tf66, ev3_hold, sxo, sxc, sxp, sxq, sxr, sxs, sxl, sxm, Int.reduceBEq, Int.reduceBNe, Int.reduceLT, Int.reduceLE, Int.reduceEq, Int.reduceGT, Int.reduceGE, Int.reduceToNat, ↓reduceIte, List.reduceReplicate, Nat.reduceAdd, Nat.reduceSub, Nat.reduceMul, Nat.reduceLT, Nat.reduceLeDiff, Nat.reduceBEq, Nat.reduceEqDiff, dn]
  refine CallOb.pureH (fun w' hp => howni _ w' hp) ?_
  rintro q N rfl
  refine ⟨?_⟩
  simp (config := { maxSteps := 4000000 }) only [↓sx0, ↓sx1, ↓sx2, ↓sx3, ↓sx4, ↓sx5, ↓sx6, sx0, sx1, sx2, sx3, sx4, sx5, sx6, tf66, ev3_hold, sxo, sxc, sxp, sxq, sxr, sxs, sxl, sxm, Int.reduceBEq, Int.reduceBNe, Int.reduceLT, Int.reduceLE, Int.reduceEq, Int.reduceGT, Int.reduceGE, Int.reduceToNat, ↓reduceIte, List.reduceReplicate, Nat.reduceAdd, Nat.reduceSub, Nat.reduceMul, Nat.reduceLT, Nat.reduceLeDiff, Nat.reduceBEq, Nat.reduceEqDiff, k1]
  refine ⟨by omega, by omega, _, rfl, ?_⟩
  refine wr_at (A := N) (B := HO.row (.slice (some ⟨b, 0, none⟩) n n) 3 1 (ints (rowF n fun x => if x < i then U x else 0)) :: HO.row (.slice (some ⟨bl, 0, none⟩) T T) 22 1 (cat lpc QS) :: D) (ad := ⟨b2, 0, none⟩) (len := n) (cap := n) (e := 3) (f := i1) (l := rowF n fun x => if x < i then V x else 0) (u := min 1073741824 (B + C)) (by rw [← hHH]) i1_len (by rw [rowF_len]) (by rw [rowF_len]; omega) ?_
  rw [show min 1073741824 (B + C) = V i from hVii, hset V i]
  simp (config := { maxSteps := 4000000 }) only [↓sx0, ↓sx1, ↓sx2, ↓sx3, ↓sx4, ↓sx5, ↓sx6, sx0, sx1, sx2, sx3, sx4, sx5, sx6, tf66, ev3_hold, sxo, sxc, sxp, sxq, sxr, sxs, sxl, sxm, Int.reduceBEq, Int.reduceBNe, Int.reduceLT, Int.reduceLE, Int.reduceEq, Int.reduceGT, Int.reduceGE, Int.reduceToNat, ↓reduceIte, List.reduceReplicate, Nat.reduceAdd, Nat.reduceSub, Nat.reduceMul, Nat.reduceLT, Nat.reduceLeDiff, Nat.reduceBEq, Nat.reduceEqDiff]
  refine at_1 (hrq _ (by simp)) lpc_len hQs (show lpc _ = [Value.slice (some ⟨b, 0, none⟩) n n] from rfl) fun ad3 => ?_
  simp (config := { maxSteps := 4000000 }) only [↓sx0, ↓sx1, ↓sx2, ↓sx3, ↓sx4, ↓sx5, ↓sx6, sx0, sx1, sx2, sx3, sx4, sx5, sx6, tf66, ev3_hold, sxo, sxc, sxp, sxq, sxr, sxs, sxl, sxm, Int.reduceBEq, Int.reduceBNe, Int.reduceLT, Int.reduceLE, Int.reduceEq, Int.reduceGT, Int.reduceGE, Int.reduceToNat, ↓reduceIte, List.reduceReplicate, Nat.reduceAdd, Nat.reduceSub, Nat.reduceMul, Nat.reduceLT, Nat.reduceLeDiff, Nat.reduceBEq, Nat.reduceEqDiff]
  refine at_1 (hra _ (fun h hh => by simp [hKD h hh])) lpc_len hqat (show lpc _ = [Value.slice (some aa) n ca] from rfl) fun ad4 => ?_
  simp (config := { maxSteps := 4000000 }) only [↓sx0, ↓sx1, ↓sx2, ↓sx3, ↓sx4, ↓sx5, ↓sx6, sx0, sx1, sx2, sx3, sx4, sx5, sx6, tf66, ev3_hold, sxo, sxc, sxp, sxq, sxr, sxs, sxl, sxm, Int.reduceBEq, Int.reduceBNe, Int.reduceLT, Int.reduceLE, Int.reduceEq, Int.reduceGT, Int.reduceGE, Int.reduceToNat, ↓reduceIte, List.reduceReplicate, Nat.reduceAdd, Nat.reduceSub, Nat.reduceMul, Nat.reduceLT, Nat.reduceLeDiff, Nat.reduceBEq, Nat.reduceEqDiff]
  refine at_1 (hrat2 _ (fun h hh => by simp [hKD h hh])) i1_len (rowF_get P hiln) rfl fun ad5 => ?_
  simp (config := { maxSteps := 4000000 }) only [↓sx0, ↓sx1, ↓sx2, ↓sx3, ↓sx4, ↓sx5, ↓sx6, sx0, sx1, sx2, sx3, sx4, sx5, sx6, tf66, ev3_hold, sxo, sxc, sxp, sxq, sxr, sxs, sxl, sxm, Int.reduceBEq, Int.reduceBNe, Int.reduceLT, Int.reduceLE, Int.reduceEq, Int.reduceGT, Int.reduceGE, Int.reduceToNat, ↓reduceIte, List.reduceReplicate, Nat.reduceAdd, Nat.reduceSub, Nat.reduceMul, Nat.reduceLT, Nat.reduceLeDiff, Nat.reduceBEq, Nat.reduceEqDiff, k2]
  refine ⟨by omega, by omega, _, rfl, ?_⟩
  refine wr_at (A := N ++ [HO.row (.slice (some ⟨b2, 0, none⟩) n n) 3 1 (ints (rowF n fun x => if x < i + 1 then V x else 0))]) (B := HO.row (.slice (some ⟨bl, 0, none⟩) T T) 22 1 (cat lpc QS) :: D) (ad := ⟨b, 0, none⟩) (len := n) (cap := n) (e := 3) (f := i1) (l := rowF n fun x => if x < i then U x else 0) (u := min 1073741824 (B + P i)) (by rw [List.append_assoc]; rfl) i1_len (by rw [rowF_len]) (by rw [rowF_len]; omega) ?_
  rw [show min 1073741824 (B + P i) = U i from hthi.symm, hset U i]
  simp (config := { maxSteps := 4000000 }) only [↓sx0, ↓sx1, ↓sx2, ↓sx3, ↓sx4, ↓sx5, ↓sx6, sx0, sx1, sx2, sx3, sx4, sx5, sx6, tf66, ev3_hold, sxo, sxc, sxp, sxq, sxr, sxs, sxl, sxm, Int.reduceBEq, Int.reduceBNe, Int.reduceLT, Int.reduceLE, Int.reduceEq, Int.reduceGT, Int.reduceGE, Int.reduceToNat, ↓reduceIte, List.reduceReplicate, Nat.reduceAdd, Nat.reduceSub, Nat.reduceMul, Nat.reduceLT, Nat.reduceLeDiff, Nat.reduceBEq, Nat.reduceEqDiff, f8]
  exact ⟨i + 1, _, rfl, by rw [List.append_assoc]; exact HImp.app _ _ _, ⟨by omega, rfl⟩, by omega⟩
end Go.Proofs.YtaloedccoadedaaDoor
