/- A part of a proof: the symbolic walk and what it shows of single functions. -/
import Derived.Test.YtcnlbnccbnapbaaDoorSsE
set_option linter.all false
namespace Go.Proofs.YtcnlbnccbnapbaaDoor
open Go.RowKit Go.SX
set_option maxRecDepth 10000
set_option maxHeartbeats 0
set_option linter.unusedSimpArgs false
set_option linter.unusedVariables false
noncomputable def detZ (v : Value) (c : Cht) : Nat → List Value → Option Value := open Classical in fun
  | 52, [.agg ⟨[.int .i64 a, .int .i64 b]⟩, .int .i64 s, .int .i64 y] => if 0 ≤ s ∧ s ≤ b + 1 ∧ b ≤ 1000 then some (I (stN a b y s)) else none
  | g, xs => detR v c g xs
theorem detZ_ok {v : Value} {c : Cht} {w0 : World} {X : Nat → Prop} (hw : Ways w0) (hc : ChOk w0 v c) (hX : ∀ b, b < w0.heap.size → ¬ X b) : DetFn Tryd.prog ⟨w0, X⟩ (detZ v c) := by
  intro g args r h w hk
  unfold detZ at h
  split at h
  · split at h
    · rename_i hcond
      cases h
      exact det_of_fn (staying_fn w _ _ _ _ ⟨hcond.1, hcond.2.1⟩ hcond.2.2)
    · cases h
  · exact detR_ok hw hc hX _ _ _ h w hk
theorem detZ_st (v : Value) (c : Cht) (g : Vg) {y s : Nat} (hs : s < g.ts + 2) (hts : g.ts ≤ 8) : detZ v c 52 [.agg #[I g.tc, I g.ts], I s, I y] = some (I (g.st y s : Nat)) := by
  have : detZ v c 52 [.agg #[I g.tc, I g.ts], I s, I y] = some (I (stN g.tc g.ts y s)) := if_pos (by omega)
  rw [this, stN_eq]
def LeastP (g : Vg) (q : Value) (N : List HO) : Prop := ∃ ad cp qs tabs, q = .slice ad tabs.length cp ∧ (ad = none → tabs = []) ∧ HO.row (.slice ad tabs.length cp) 104 1 (cat slq qs) ∈ N ∧ LogI g N qs tabs ∧ (∀ (i : Nat) R, tabs[i]? = some R → g.TabI i R) ∧ tabs.length = g.c.tide.length - g.t
theorem rleast_fn (w : World) (hw : Ways w) (v : Value) (g : Vg) (hg : g.Ok) (hc : ChOk w v g.c) (r : Rmp) (hr : rampB g.c r = true) (hkr : r.cell = g.k) (hrdy : rdyB g.c g.b r g.t = true) :
    SX.Fn Tryd.prog 109 [v, clv g.b, rmv r, I g.t, .agg #[I g.tc, I g.ts]] w (fun _ => False) (LeastP g) := by
  have hc0 := hc
  have hok := hg.ok
  have hD := detZ_ok (X := fun _ => False) hw hc (fun _ _ => id)
  have hrd := fun (H : List HO) w' (hp : Hp ⟨w, fun _ => False⟩ H w') => rready5_fn w' (hw.hp hp) v g.c (hc0.hp hp) hok g.b r hg.cls hr g.t hg.t
  have hst := fun (x u : Nat) (hx : x < g.c.depth.length) (hu : u < g.c.tide.length) (H : List HO) w' (hp : Hp ⟨w, fun _ => False⟩ H w') => stands5_fn w' v g.c (hc0.hp hp) hok g.b x u hx hu
  have hne := fun (x : Nat) (hx : x < g.c.depth.length) (H : List HO) w' (hp : Hp ⟨w, fun _ => False⟩ H w') => rnear_fn w' (hw.hp hp) v g.c (hc0.hp hp) hok x hx
  have hck : canB g.c g.b g.t g.k = true := by
    have := rdy_can2 hok (ramp_cell hr) hg.t hrdy
    rwa [show r.cell.toNat = g.k by omega] at this
  rw [hrdy] at hrd
  have hZ := fun (y s : Nat) (hs : s < g.ts + 2) => detZ_st v g.c g (y := y) hs hg.ts
  obtain ⟨sD, sT, sS, rfl, hsD, hsT, hsS⟩ := hc
  obtain ⟨aT, nT, cT, rfl⟩ := hsT.shape
  have hnT := hsT.le spc_len (by omega)
  subst hnT
  obtain ⟨eW, eH, hW, hH, hlen⟩ := hok.dims
  have h60 := hok.2.2.2.1
  have hwh : (g.c.depth.length : Int) = g.c.wide * g.c.high := hok.2.2.1
  have h144 : g.c.depth.length ≤ 144 := by rw [hlen]; exact Nat.le_trans (Nat.mul_le_mul hW.2 hH.2) (by decide)
  have hts := hg.ts
  have ht0 := hg.t
  have hk0 := hg.k
  have hcb := (clsB_iff g.b).1 hg.cls
  have hce : detZ (.agg #[I g.c.wide, I g.c.high, sD, .slice aT g.c.tide.length cT, sS]) g.c 42 [.agg #[I g.c.wide, I g.c.high, sD, .slice aT g.c.tide.length cT, sS]] = some (I (wr (g.c.wide * g.c.high))) := rfl
  have ewh : IntKind.i64.wrap (g.c.wide * g.c.high) = (g.c.depth.length : Int) := by rw [← hwh]; exact wrap_id (by omega)
  have dn : (∀ xs, detZ (.agg #[I g.c.wide, I g.c.high, sD, .slice aT g.c.tide.length cT, sS]) g.c 49 xs = none) ∧ (∀ xs, detZ (.agg #[I g.c.wide, I g.c.high, sD, .slice aT g.c.tide.length cT, sS]) g.c 51 xs = none) ∧ (∀ xs, detZ (.agg #[I g.c.wide, I g.c.high, sD, .slice aT g.c.tide.length cT, sS]) g.c 53 xs = none) := ⟨fun _ => rfl, fun _ => rfl, fun _ => rfl⟩
  obtain ⟨rc, rdr, rl, rm, rs⟩ := r
  simp only [] at hkr
  subst hkr
  unfold clv rmv at hrd
  unfold clv at hst
  unfold clv rmv
  obtain ⟨n, hn⟩ : ∃ n, g.c.depth.length = n := ⟨_, rfl⟩
  obtain ⟨m, hm⟩ : ∃ m, g.ts + 2 = m := ⟨_, rfl⟩
  have e2 : wr ((g.ts : Int) + 2) = (m : Int) := (wrap_id (by omega)).trans (by omega)
  rw [hn] at ewh h144 hk0
  simp only [hn] at hst hne
  simp only [hm] at hZ
  refine walkC [48] [] [] hD Tryd.func109 rfl Tryd.ntmps109 res109 (by kernel_rfl) no_facts ?_
  simp (config := { maxSteps := 4000000 }) only [↓sx0, ↓sx1, ↓sx2, ↓sx3, ↓sx4, ↓sx5, ↓sx6, sx0, sx1, sx2, sx3, sx4, sx5, sx6, tf109, ev3_hold, sxo, sxc, sxp, sxq, sxr, sxs, sxl, sxm, Int.reduceBEq, Int.reduceBNe, Int.reduceLT, Int.reduceLE, Int.reduceEq, Int.reduceGT, Int.reduceGE, Int.reduceToNat, ↓reduceIte, List.reduceReplicate, Nat.reduceAdd, Nat.reduceSub, Nat.reduceMul, Nat.reduceLT, Nat.reduceLeDiff, Nat.reduceBEq, Nat.reduceEqDiff]
  refine loop_constH [HO.row (.slice none 0 0) 104 1 (cat slq ([] : List (Option Addr × Nat × Nat)))] (HImp.nilRow _ _ _ _) [(11, 20), (22, 161)] (fun q : Nat × Option Addr × Nat => [(11, .slice q.2.1 q.1 q.2.2), (12, I ((g.t + q.1 : Nat) : Int))])
    (fun q H1 => g.t + q.1 ≤ g.c.tide.length ∧ (q.2.1 = none → q.1 = 0) ∧ ∃ qs tabs DF, H1 = HO.row (.slice q.2.1 q.1 q.2.2) 104 1 (cat slq qs) :: DF ∧ tabs.length = q.1 ∧ LogI g DF qs tabs ∧ (∀ (i : Nat) R, tabs[i]? = some R → g.TabI i R)) (fun q => g.c.tide.length - q.1) (0, none, 0) ?_ ⟨Nat.le_of_lt ht0, fun _ => rfl, [], [], [], rfl, rfl, ⟨rfl, fun i R h => by simp at h⟩, fun i R h => by simp at h⟩ ?_
  · simp (config := { maxSteps := 4000000 }) only [↓sx0, ↓sx1, ↓sx2, ↓sx3, ↓sx4, ↓sx5, ↓sx6, sx0, sx1, sx2, sx3, sx4, sx5, sx6, tf109, ev3_hold, sxo, sxc, sxp, sxq, sxr, sxs, sxl, sxm, Int.reduceBEq, Int.reduceBNe, Int.reduceLT, Int.reduceLE, Int.reduceEq, Int.reduceGT, Int.reduceGE, Int.reduceToNat, ↓reduceIte, List.reduceReplicate, Nat.reduceAdd, Nat.reduceSub, Nat.reduceMul, Nat.reduceLT, Nat.reduceLeDiff, Nat.reduceBEq, Nat.reduceEqDiff]
    try simp
  rintro ⟨i, ad, cp⟩ H1 g1 hinv
  simp only [] at hinv
  obtain ⟨hi, hadn, qs, tabs, DF, rfl, htl, hLI, hTb⟩ := hinv
  by_cases hti : g.t + i = g.c.tide.length
  · have e7 : (((g.t + i : Nat) : Int) < (g.c.tide.length : Int)) = False := eq_false (by omega)
    refine ⟨?_⟩
    simp (config := { maxSteps := 4000000 }) only [↓sx0, ↓sx1, ↓sx2, ↓sx3, ↓sx4, ↓sx5, ↓sx6, sx0, sx1, sx2, sx3, sx4, sx5, sx6, tf109, ev3_hold, sxo, sxc, sxp, sxq, sxr, sxs, sxl, sxm, Int.reduceBEq, Int.reduceBNe, Int.reduceLT, Int.reduceLE, Int.reduceEq, Int.reduceGT, Int.reduceGE, Int.reduceToNat, ↓reduceIte, List.reduceReplicate, Nat.reduceAdd, Nat.reduceSub, Nat.reduceMul, Nat.reduceLT, Nat.reduceLeDiff, Nat.reduceBEq, Nat.reduceEqDiff, e7]
    exact ⟨ad, cp, qs, tabs, by rw [htl], fun h => List.eq_nil_of_length_eq_zero (by rw [htl]; exact hadn h), by rw [htl]; exact List.mem_cons_self, hLI.mono fun h hh => List.mem_cons_of_mem _ hh, hTb, by omega⟩
  have e7 : (((g.t + i : Nat) : Int) < (g.c.tide.length : Int)) = True := eq_true (by omega)
  have e8 : wr (((g.t + i : Nat) : Int) + 1) = ((g.t + (i + 1) : Nat) : Int) := (wrap_id (by omega)).trans (by omega)
  have hst := fun (x : Nat) (hx : x < n) => hst x (g.t + i) hx (by omega)
  have hql := hLI.1
  obtain ⟨T0, hT0⟩ : ∃ T0, HO.row (.slice ad i cp) 104 1 (cat slq qs) :: DF = T0 := ⟨_, rfl⟩
  rw [hT0]
  refine ⟨?_⟩
  simp (config := { maxSteps := 4000000 }) only [↓sx0, ↓sx1, ↓sx2, ↓sx3, ↓sx4, ↓sx5, ↓sx6, sx0, sx1, sx2, sx3, sx4, sx5, sx6, tf109, ev3_hold, sxo, sxc, sxp, sxq, sxr, sxs, sxl, sxm, Int.reduceBEq, Int.reduceBNe, Int.reduceLT, Int.reduceLE, Int.reduceEq, Int.reduceGT, Int.reduceGE, Int.reduceToNat, ↓reduceIte, List.reduceReplicate, Nat.reduceAdd, Nat.reduceSub, Nat.reduceMul, Nat.reduceLT, Nat.reduceLeDiff, Nat.reduceBEq, Nat.reduceEqDiff, e7, hce, ewh]
  refine ⟨by omega, by omega, by omega, fun b3 => ?_⟩
  have hz : zerosL n [Value.slice none 0 0] = cat slq (([] : List Addr).map (aq m) ++ List.replicate (n - 0) (none, 0, 0)) := by
    rw [List.map_nil, List.nil_append, Nat.sub_zero]
    exact zeros_cat slq (none, 0, 0) _
  refine loop_constH (HO.row (.slice (some ⟨b3, 0, none⟩) n n) 22 1 (cat slq (([] : List Addr).map (aq m) ++ List.replicate (n - 0) (none, 0, 0))) :: (FI m [] [] ++ T0)) (by rw [← hz]; exact HImp.refl _ _) [(14, 20), (32, 157)] (fun q : Nat × List Addr × List (List Int) => [(14, I q.1)])
    (fun q H1 => q.1 ≤ n ∧ q.2.1.length = q.1 ∧ q.2.2.length = q.1 ∧ (∀ x, x < q.1 → g.Fin i x (q.2.2.getD x [])) ∧ H1 = HO.row (.slice (some ⟨b3, 0, none⟩) n n) 22 1 (cat slq (q.2.1.map (aq m) ++ List.replicate (n - q.1) (none, 0, 0))) :: (FI m q.2.1 q.2.2 ++ T0)) (fun q => n - q.1) (0, [], []) ?_ ⟨Nat.zero_le _, rfl, rfl, fun x hx => by omega, rfl⟩ ?_
  · simp (config := { maxSteps := 4000000 }) only [↓sx0, ↓sx1, ↓sx2, ↓sx3, ↓sx4, ↓sx5, ↓sx6, sx0, sx1, sx2, sx3, sx4, sx5, sx6, tf109, ev3_hold, sxo, sxc, sxp, sxq, sxr, sxs, sxl, sxm, Int.reduceBEq, Int.reduceBNe, Int.reduceLT, Int.reduceLE, Int.reduceEq, Int.reduceGT, Int.reduceGE, Int.reduceToNat, ↓reduceIte, List.reduceReplicate, Nat.reduceAdd, Nat.reduceSub, Nat.reduceMul, Nat.reduceLT, Nat.reduceLeDiff, Nat.reduceBEq, Nat.reduceEqDiff]
    try simp
  rintro ⟨y, aa, Nl⟩ H2 g2 hinv2
  simp only [] at hinv2
  obtain ⟨hy, hal, hNl, hFin, rfl⟩ := hinv2
  by_cases hyn : y = n
  · have f7 : ((y : Int) < (n : Int)) = False := eq_false (by omega)
    subst hyn
    have hTn : g.TabI i Nl := ⟨by rw [hNl, hn], fun x hx => hFin x (by omega)⟩
    have hTs2 : ∀ (j : Nat) R, (tabs ++ [Nl])[j]? = some R → g.TabI j R := fun j R hR => by
      by_cases hj : j < tabs.length
      · rw [List.getElem?_append_left hj] at hR
        exact hTb j R hR
      · have hlt := (List.getElem?_eq_some_iff.1 hR).1
        rw [List.length_append, List.length_singleton] at hlt
        have hie : j = tabs.length := by omega
        subst hie
        rw [List.getElem?_append_right (Nat.le_refl _), Nat.sub_self] at hR
        cases hR
        rw [htl]
        exact hTn
    rw [Nat.sub_self, List.replicate_zero, List.append_nil]
    refine ⟨?_⟩
    simp (config := { maxSteps := 4000000 }) only [↓sx0, ↓sx1, ↓sx2, ↓sx3, ↓sx4, ↓sx5, ↓sx6, sx0, sx1, sx2, sx3, sx4, sx5, sx6, tf109, ev3_hold, sxo, sxc, sxp, sxq, sxr, sxs, sxl, sxm, Int.reduceBEq, Int.reduceBNe, Int.reduceLT, Int.reduceLE, Int.reduceEq, Int.reduceGT, Int.reduceGE, Int.reduceToNat, ↓reduceIte, List.reduceReplicate, Nat.reduceAdd, Nat.reduceSub, Nat.reduceMul, Nat.reduceLT, Nat.reduceLeDiff, Nat.reduceBEq, Nat.reduceEqDiff, f7]
    intro b9
    refine app_one (f := slq) (l := qs) ((some ⟨b3, 0, none⟩, y, y) : Option Addr × Nat × Nat) (A := HO.row (.slice (some ⟨b3, 0, none⟩) y y) 22 1 (cat slq (aa.map (aq m))) :: (FI m aa Nl ++ DF)) (by rw [← hT0]; exact HImp.perm (List.perm_middle (l₁ := _ :: _))) slq_len (by simp [slq, Value.oneCell']) (by omega) fun a9 c9 => ?_
    rw [hql, htl]
    simp (config := { maxSteps := 4000000 }) only [↓sx0, ↓sx1, ↓sx2, ↓sx3, ↓sx4, ↓sx5, ↓sx6, sx0, sx1, sx2, sx3, sx4, sx5, sx6, tf109, ev3_hold, sxo, sxc, sxp, sxq, sxr, sxs, sxl, sxm, Int.reduceBEq, Int.reduceBNe, Int.reduceLT, Int.reduceLE, Int.reduceEq, Int.reduceGT, Int.reduceGE, Int.reduceToNat, ↓reduceIte, List.reduceReplicate, Nat.reduceAdd, Nat.reduceSub, Nat.reduceMul, Nat.reduceLT, Nat.reduceLeDiff, Nat.reduceBEq, Nat.reduceEqDiff, e8]
    exact ⟨(i + 1, some a9, c9), _, ⟨rfl, rfl⟩, HImp.refl _ _, ⟨by simp only []; omega, fun h => (by cases h), qs ++ [(some ⟨b3, 0, none⟩, y, y)], tabs ++ [Nl], _, rfl, by rw [List.length_append, htl]; rfl, by rw [← hn]; exact LogI.snoc (hLI.mono fun h hh => by simp [hh]) (by rw [hal, hn]) (by rw [hn, hm]; simp) (fun h hh => by rw [hm] at hh; simp [hh]), hTs2⟩, by simp only []; omega⟩
  have f7 : ((y : Int) < (n : Int)) = True := eq_true (by omega)
  have f8 : wr (y + 1) = ((y + 1 : Nat) : Int) := (wrap_id (by omega)).trans (by omega)
  have hyl : y < n := by omega
  have hll : (aa.map (aq m) ++ List.replicate (n - y) ((none, 0, 0) : Option Addr × Nat × Nat)).length = n := by
    rw [List.length_append, List.length_map, List.length_replicate]; omega
  refine ⟨?_⟩
  simp (config := { maxSteps := 4000000 }) only [↓sx0, ↓sx1, ↓sx2, ↓sx3, ↓sx4, ↓sx5, ↓sx6, sx0, sx1, sx2, sx3, sx4, sx5, sx6, tf109, ev3_hold, sxo, sxc, sxp, sxq, sxr, sxs, sxl, sxm, Int.reduceBEq, Int.reduceBNe, Int.reduceLT, Int.reduceLE, Int.reduceEq, Int.reduceGT, Int.reduceGE, Int.reduceToNat, ↓reduceIte, List.reduceReplicate, Nat.reduceAdd, Nat.reduceSub, Nat.reduceMul, Nat.reduceLT, Nat.reduceLeDiff, Nat.reduceBEq, Nat.reduceEqDiff, f7, e2]
  refine ⟨by omega, by omega, by omega, fun bq => ?_⟩
  refine ⟨by omega, _, rfl, ?_⟩
  have hset : (aa.map (aq m) ++ List.replicate (n - y) ((none, 0, 0) : Option Addr × Nat × Nat)).set y (aq m ⟨bq, 0, none⟩) = (aa ++ [(⟨bq, 0, none⟩ : Addr)]).map (aq m) ++ List.replicate (n - (y + 1)) (none, 0, 0) := by
    rw [List.set_append, if_neg (by rw [List.length_map]; omega), List.length_map, hal, Nat.sub_self, show n - y = (n - (y + 1)) + 1 by omega, List.replicate_succ, List.set_cons_zero, List.map_append, List.append_assoc]
    rfl
  refine wr_at (A := [_]) (f := slq) (u := aq m ⟨bq, 0, none⟩) rfl slq_len hll (by omega) ?_
  rw [hset]
  obtain ⟨qR, hqR⟩ : ∃ qR, (aa ++ [(⟨bq, 0, none⟩ : Addr)]).map (aq m) ++ List.replicate (n - (y + 1)) ((none, 0, 0) : Option Addr × Nat × Nat) = qR := ⟨_, rfl⟩
  have hqRl : qR.length = n := by rw [← hqR, List.length_append, List.length_map, List.length_append, List.length_replicate, List.length_singleton]; omega
  have hqRy : qR[y]? = some (some ⟨bq, 0, none⟩, m, m) := by
    rw [← hqR, List.getElem?_append_left (by rw [List.length_map, List.length_append, List.length_singleton]; omega), List.getElem?_map, List.getElem?_append_right (by omega), hal, Nat.sub_self]
    rfl
  have hslq : slq (some (⟨bq, 0, none⟩ : Addr), m, m) = [Value.slice (some ⟨bq, 0, none⟩) m m] := rfl
  rw [hqR]
  obtain ⟨RW, hRW⟩ : ∃ RW, HO.row (.slice (some ⟨b3, 0, none⟩) n n) 22 1 (cat slq qR) = RW := ⟨_, rfl⟩
  have hrR := fun (H : List HO) (hmem : RW ∈ H) => row_rdS (w0 := ⟨w, fun _ => False⟩) (H := H) (E := 22) (ad := ⟨b3, 0, none⟩) (len := n) (cap := n) (f := slq) (l := qR) (by rw [hRW]; exact hmem) slq_len hqRl
  obtain ⟨TF, hTF⟩ : ∃ TF, FI m aa Nl ++ T0 = TF := ⟨_, rfl⟩
  have hT0F : ∀ h ∈ T0, h ∈ TF := fun h hh => by rw [← hTF]; exact List.mem_append_right _ hh
  rw [hRW, hTF, show zerosL m [Value.int IntKind.i64 0] = ints (List.replicate m 0) from zeros_cat i1 0 _]
  refine loop_constH (HO.row (.slice (some ⟨bq, 0, none⟩) m m) 3 1 (ints (List.replicate m 0)) :: RW :: TF) (HImp.refl _ _) [(15, 15), (45, 59)] (fun q : Nat × List Int => [(15, I q.1)])
    (fun q H1 => q.1 ≤ m ∧ isG q.2 m (fun u => if u < q.1 then nv40 else 0) ∧ H1 = HO.row (.slice (some ⟨bq, 0, none⟩) m m) 3 1 (ints q.2) :: RW :: TF) (fun q => m - q.1) (0, List.replicate m 0) ?_ ⟨Nat.zero_le _, (isG.rep m 0).congr fun u _ => (if_neg (by simp)).symm, rfl⟩ ?_
  · simp (config := { maxSteps := 4000000 }) only [↓sx0, ↓sx1, ↓sx2, ↓sx3, ↓sx4, ↓sx5, ↓sx6, sx0, sx1, sx2, sx3, sx4, sx5, sx6, tf109, ev3_hold, sxo, sxc, sxp, sxq, sxr, sxs, sxl, sxm, Int.reduceBEq, Int.reduceBNe, Int.reduceLT, Int.reduceLE, Int.reduceEq, Int.reduceGT, Int.reduceGE, Int.reduceToNat, ↓reduceIte, List.reduceReplicate, Nat.reduceAdd, Nat.reduceSub, Nat.reduceMul, Nat.reduceLT, Nat.reduceLeDiff, Nat.reduceBEq, Nat.reduceEqDiff]
    try simp
  rintro ⟨s, Q⟩ H3 g3 hinv3
  simp only [] at hinv3
  obtain ⟨hs, hQ, rfl⟩ := hinv3
  have hQl := hQ.1
  by_cases hsn : s = m
  case neg =>
    have p7 : ((s : Int) < (m : Int)) = True := eq_true (by omega)
    have p8 : wr (s + 1) = ((s + 1 : Nat) : Int) := (wrap_id (by omega)).trans (by omega)
    have hstep : isG (Q.set s nv40) m (fun u => if u < s + 1 then nv40 else 0) := hQ.set (show s < m by omega) (by rw [if_pos (by omega)]) fun u _ hne => by
      by_cases h : u < s
      · rw [if_pos h, if_pos (by omega)]
      · rw [if_neg h, if_neg (by omega)]
    refine ⟨?_⟩
    simp (config := { maxSteps := 4000000 }) only [↓sx0, ↓sx1, ↓sx2, ↓sx3, ↓sx4, ↓sx5, ↓sx6, sx0, sx1, sx2, sx3, sx4, sx5, sx6, tf109, ev3_hold, sxo, sxc, sxp, sxq, sxr, sxs, sxl, sxm, Int.reduceBEq, Int.reduceBNe, Int.reduceLT, Int.reduceLE, Int.reduceEq, Int.reduceGT, Int.reduceGE, Int.reduceToNat, ↓reduceIte, List.reduceReplicate, Nat.reduceAdd, Nat.reduceSub, Nat.reduceMul, Nat.reduceLT, Nat.reduceLeDiff, Nat.reduceBEq, Nat.reduceEqDiff]
    refine at_1 (hrR _ (by simp)) slq_len hqRy hslq fun ad1 => ?_
    simp (config := { maxSteps := 4000000 }) only [↓sx0, ↓sx1, ↓sx2, ↓sx3, ↓sx4, ↓sx5, ↓sx6, sx0, sx1, sx2, sx3, sx4, sx5, sx6, tf109, ev3_hold, sxo, sxc, sxp, sxq, sxr, sxs, sxl, sxm, Int.reduceBEq, Int.reduceBNe, Int.reduceLT, Int.reduceLE, Int.reduceEq, Int.reduceGT, Int.reduceGE, Int.reduceToNat, ↓reduceIte, List.reduceReplicate, Nat.reduceAdd, Nat.reduceSub, Nat.reduceMul, Nat.reduceLT, Nat.reduceLeDiff, Nat.reduceBEq, Nat.reduceEqDiff, p7]
    refine at_1 (hrR _ (by simp)) slq_len hqRy hslq fun ad1 => ?_
    simp (config := { maxSteps := 4000000 }) only [↓sx0, ↓sx1, ↓sx2, ↓sx3, ↓sx4, ↓sx5, ↓sx6, sx0, sx1, sx2, sx3, sx4, sx5, sx6, tf109, ev3_hold, sxo, sxc, sxp, sxq, sxr, sxs, sxl, sxm, Int.reduceBEq, Int.reduceBNe, Int.reduceLT, Int.reduceLE, Int.reduceEq, Int.reduceGT, Int.reduceGE, Int.reduceToNat, ↓reduceIte, List.reduceReplicate, Nat.reduceAdd, Nat.reduceSub, Nat.reduceMul, Nat.reduceLT, Nat.reduceLeDiff, Nat.reduceBEq, Nat.reduceEqDiff]
    refine ⟨by omega, by omega, _, rfl, ?_⟩
    refine wr_at (A := []) (f := i1) (u := nv40) rfl i1_len (by omega) (by omega) ?_
    simp (config := { maxSteps := 4000000 }) only [↓sx0, ↓sx1, ↓sx2, ↓sx3, ↓sx4, ↓sx5, ↓sx6, sx0, sx1, sx2, sx3, sx4, sx5, sx6, tf109, ev3_hold, sxo, sxc, sxp, sxq, sxr, sxs, sxl, sxm, Int.reduceBEq, Int.reduceBNe, Int.reduceLT, Int.reduceLE, Int.reduceEq, Int.reduceGT, Int.reduceGE, Int.reduceToNat, ↓reduceIte, List.reduceReplicate, Nat.reduceAdd, Nat.reduceSub, Nat.reduceMul, Nat.reduceLT, Nat.reduceLeDiff, Nat.reduceBEq, Nat.reduceEqDiff, p8]
    exact ⟨(s + 1, Q.set s nv40), _, rfl, HImp.refl _ _, ⟨by simp only []; omega, hstep, rfl⟩, by simp only []; omega⟩
  subst hsn
  have hQv : Q = g.voidI := by
    rw [hQ.eq]
    unfold Vg.voidI
    rw [hm]
    refine List.ext_getElem? fun j => ?_
    rw [List.getElem?_map, List.getElem?_replicate]
    by_cases hj : j < s
    · rw [List.getElem?_range hj, if_pos hj]
      simp [hj]
    · rw [if_neg hj, List.getElem?_eq_none (by rw [List.length_range]; omega)]
      rfl
  subst hQv
  have p7 : ((s : Int) < (s : Int)) = False := eq_false (by omega)
  have hfin : ∀ (Q : List Int) (N : List HO), g.Fin i y Q → HImp ⟨w, fun _ => False⟩ (N ++ HO.row (.slice (some ⟨bq, 0, none⟩) s s) 3 1 (ints Q) :: RW :: TF) (RW :: (FI s (aa ++ [(⟨bq, 0, none⟩ : Addr)]) (Nl ++ [Q]) ++ T0)) ∧ (∀ x, x < y + 1 → g.Fin i x ((Nl ++ [Q]).getD x [])) := fun Q N hQ => by
    refine ⟨(HImp.app _ _ _).trans ?_, fun x hx => ?_⟩
    · rw [FI_append _ _ _ _ _ (by rw [hal, hNl]), ← hTF, show FI s [(⟨bq, 0, none⟩ : Addr)] [Q] = [HO.row (.slice (some ⟨bq, 0, none⟩) s s) 3 1 (ints Q)] from rfl, List.append_assoc]
      refine (HImp.swap _ _ _ _).trans (HImp.perm (List.Perm.cons _ ?_))
      exact (List.perm_middle (l₁ := FI s aa Nl)).symm
    · rw [List.getD_eq_getElem?_getD]
      by_cases e : x < y
      · rw [List.getElem?_append_left (by omega), ← List.getD_eq_getElem?_getD]
        exact hFin x e
      · have e' : x = y := by omega
        subst e'
        rw [List.getElem?_append_right (by omega), hNl, Nat.sub_self]
        exact hQ
  have hnext : ∀ (Q : List Int) (N : List HO), g.Fin i y Q → ∃ q : Nat × List Addr × List (List Int), ∃ H', q.1 = y + 1 ∧ HImp ⟨w, fun _ => False⟩ (N ++ HO.row (.slice (some ⟨bq, 0, none⟩) s s) 3 1 (ints Q) :: RW :: TF) H' ∧ (q.1 ≤ n ∧ q.2.1.length = q.1 ∧ q.2.2.length = q.1 ∧ (∀ x, x < q.1 → g.Fin i x (q.2.2.getD x [])) ∧ H' = HO.row (.slice (some ⟨b3, 0, none⟩) n n) 22 1 (cat slq (q.2.1.map (aq s) ++ List.replicate (n - q.1) (none, 0, 0))) :: (FI s q.2.1 q.2.2 ++ T0)) ∧ n - q.1 < n - y := fun Q N hQ => by
    obtain ⟨h1, h2⟩ := hfin Q N hQ
    refine ⟨(y + 1, aa ++ [(⟨bq, 0, none⟩ : Addr)], Nl ++ [Q]), _, rfl, h1, ⟨by simp only []; omega, by simp only [List.length_append, List.length_singleton]; omega, by simp only [List.length_append, List.length_singleton]; omega, h2, by rw [← hRW, ← hqR]⟩, by simp only []; omega⟩
  have hsty := hst y hyl
  cases hcan : canB g.c g.b (g.t + i) y with
  | false =>
    rw [hcan] at hsty
    have hF : g.Fin i y g.voidI := Vg.Fin.void fun s' B hr => by
      cases i with
      | zero =>
        obtain ⟨rfl, _, _⟩ := Vg.R_zero hr
        rw [Nat.add_zero, hck] at hcan
        cases hcan
      | succ j => exact Vg.no_can (by rw [Nat.add_assoc]; exact hcan) hr
    refine ⟨?_⟩
    simp (config := { maxSteps := 4000000 }) only [↓sx0, ↓sx1, ↓sx2, ↓sx3, ↓sx4, ↓sx5, ↓sx6, sx0, sx1, sx2, sx3, sx4, sx5, sx6, tf109, ev3_hold, sxo, sxc, sxp, sxq, sxr, sxs, sxl, sxm, Int.reduceBEq, Int.reduceBNe, Int.reduceLT, Int.reduceLE, Int.reduceEq, Int.reduceGT, Int.reduceGE, Int.reduceToNat, ↓reduceIte, List.reduceReplicate, Nat.reduceAdd, Nat.reduceSub, Nat.reduceMul, Nat.reduceLT, Nat.reduceLeDiff, Nat.reduceBEq, Nat.reduceEqDiff]
    refine at_1 (hrR _ (by simp)) slq_len hqRy hslq fun ad1 => ?_
    simp (config := { maxSteps := 4000000 }) only [↓sx0, ↓sx1, ↓sx2, ↓sx3, ↓sx4, ↓sx5, ↓sx6, sx0, sx1, sx2, sx3, sx4, sx5, sx6, tf109, ev3_hold, sxo, sxc, sxp, sxq, sxr, sxs, sxl, sxm, Int.reduceBEq, Int.reduceBNe, Int.reduceLT, Int.reduceLE, Int.reduceEq, Int.reduceGT, Int.reduceGE, Int.reduceToNat, ↓reduceIte, List.reduceReplicate, Nat.reduceAdd, Nat.reduceSub, Nat.reduceMul, Nat.reduceLT, Nat.reduceLeDiff, Nat.reduceBEq, Nat.reduceEqDiff, p7, dn]
    refine CallOb.pureH (fun w' hp => hsty _ w' hp) ?_
    rintro q N rfl
    obtain ⟨q', H', k1, k2, k3, k4⟩ := hnext _ N hF
    refine ⟨?_⟩
    simp (config := { maxSteps := 4000000 }) only [↓sx0, ↓sx1, ↓sx2, ↓sx3, ↓sx4, ↓sx5, ↓sx6, sx0, sx1, sx2, sx3, sx4, sx5, sx6, tf109, ev3_hold, sxo, sxc, sxp, sxq, sxr, sxs, sxl, sxm, Int.reduceBEq, Int.reduceBNe, Int.reduceLT, Int.reduceLE, Int.reduceEq, Int.reduceGT, Int.reduceGE, Int.reduceToNat, ↓reduceIte, List.reduceReplicate, Nat.reduceAdd, Nat.reduceSub, Nat.reduceMul, Nat.reduceLT, Nat.reduceLeDiff, Nat.reduceBEq, Nat.reduceEqDiff, f8]
    exact ⟨q', H', by rw [k1], k2, k3, k4⟩
  | true =>
  rw [hcan] at hsty
  by_cases hi0 : i = 0
  · subst hi0
    have u1 : (((g.t + 0 : Nat) : Int) = (g.t : Int)) = True := eq_true (by omega)
    by_cases hyk : y = g.k
    · have u2 : ((y : Int) = (g.k : Int)) = True := eq_true (by omega)
      have hF : g.Fin 0 y (g.voidI.set (g.st y 0) 0) := by rw [hyk]; exact Vg.Fin.start
      have dS : detZ (.agg #[I g.c.wide, I g.c.high, sD, .slice aT g.c.tide.length cT, sS]) g.c 52 [.agg #[I g.tc, I g.ts], I 0, I y] = some (I (g.st y 0 : Nat)) := hZ y 0 (by omega)
      have hstl := g.st_le (y := y) (s := 0) (by omega)
      have hvl : g.voidI.length = s := by unfold Vg.voidI; rw [List.length_replicate, hm]
      obtain ⟨S1, hS1⟩ : ∃ S1, g.st y 0 = S1 := ⟨_, rfl⟩
      rw [hS1] at hF dS hstl
      refine ⟨?_⟩
      simp (config := { maxSteps := 4000000 }) only [↓sx0, ↓sx1, ↓sx2, ↓sx3, ↓sx4, ↓sx5, ↓sx6, sx0, sx1, sx2, sx3, sx4, sx5, sx6, tf109, ev3_hold, sxo, sxc, sxp, sxq, sxr, sxs, sxl, sxm, Int.reduceBEq, Int.reduceBNe, Int.reduceLT, Int.reduceLE, Int.reduceEq, Int.reduceGT, Int.reduceGE, Int.reduceToNat, ↓reduceIte, List.reduceReplicate, Nat.reduceAdd, Nat.reduceSub, Nat.reduceMul, Nat.reduceLT, Nat.reduceLeDiff, Nat.reduceBEq, Nat.reduceEqDiff]
      refine at_1 (hrR _ (by simp)) slq_len hqRy hslq fun ad1 => ?_
      simp (config := { maxSteps := 4000000 }) only [↓sx0, ↓sx1, ↓sx2, ↓sx3, ↓sx4, ↓sx5, ↓sx6, sx0, sx1, sx2, sx3, sx4, sx5, sx6, tf109, ev3_hold, sxo, sxc, sxp, sxq, sxr, sxs, sxl, sxm, Int.reduceBEq, Int.reduceBNe, Int.reduceLT, Int.reduceLE, Int.reduceEq, Int.reduceGT, Int.reduceGE, Int.reduceToNat, ↓reduceIte, List.reduceReplicate, Nat.reduceAdd, Nat.reduceSub, Nat.reduceMul, Nat.reduceLT, Nat.reduceLeDiff, Nat.reduceBEq, Nat.reduceEqDiff, p7, dn]
      refine CallOb.pureH (fun w' hp => hsty _ w' hp) ?_
      rintro q N rfl
      refine ⟨?_⟩
      simp (config := { maxSteps := 4000000 }) only [↓sx0, ↓sx1, ↓sx2, ↓sx3, ↓sx4, ↓sx5, ↓sx6, sx0, sx1, sx2, sx3, sx4, sx5, sx6, tf109, ev3_hold, sxo, sxc, sxp, sxq, sxr, sxs, sxl, sxm, Int.reduceBEq, Int.reduceBNe, Int.reduceLT, Int.reduceLE, Int.reduceEq, Int.reduceGT, Int.reduceGE, Int.reduceToNat, ↓reduceIte, List.reduceReplicate, Nat.reduceAdd, Nat.reduceSub, Nat.reduceMul, Nat.reduceLT, Nat.reduceLeDiff, Nat.reduceBEq, Nat.reduceEqDiff, u1, u2, dn]
      refine CallOb.pureH (fun w' hp => by simpa using hrd _ w' hp) ?_
      rintro q N2 rfl
      obtain ⟨q', H', k1, k2, k3, k4⟩ := hnext _ (N2 ++ N) hF
      refine ⟨?_⟩
      simp (config := { maxSteps := 4000000 }) only [↓sx0, ↓sx1, ↓sx2, ↓sx3, ↓sx4, ↓sx5, ↓sx6, sx0, sx1, sx2, sx3, sx4, sx5, sx6, tf109, ev3_hold, sxo, sxc, sxp, sxq, sxr, sxs, sxl, sxm, Int.reduceBEq, Int.reduceBNe, Int.reduceLT, Int.reduceLE, Int.reduceEq, Int.reduceGT, Int.reduceGE, Int.reduceToNat, ↓reduceIte, List.reduceReplicate, Nat.reduceAdd, Nat.reduceSub, Nat.reduceMul, Nat.reduceLT, Nat.reduceLeDiff, Nat.reduceBEq, Nat.reduceEqDiff, u1]
      refine at_1 (hrR _ (by simp)) slq_len hqRy hslq fun ad1 => ?_
      simp (config := { maxSteps := 4000000 }) only [↓sx0, ↓sx1, ↓sx2, ↓sx3, ↓sx4, ↓sx5, ↓sx6, sx0, sx1, sx2, sx3, sx4, sx5, sx6, tf109, ev3_hold, sxo, sxc, sxp, sxq, sxr, sxs, sxl, sxm, Int.reduceBEq, Int.reduceBNe, Int.reduceLT, Int.reduceLE, Int.reduceEq, Int.reduceGT, Int.reduceGE, Int.reduceToNat, ↓reduceIte, List.reduceReplicate, Nat.reduceAdd, Nat.reduceSub, Nat.reduceMul, Nat.reduceLT, Nat.reduceLeDiff, Nat.reduceBEq, Nat.reduceEqDiff, dS]
      refine ⟨by omega, by omega, _, rfl, ?_⟩
      refine wr_at (A := N2 ++ N) (f := i1) (u := 0) (List.append_assoc _ _ _).symm i1_len (by omega) (by omega) ?_
      simp (config := { maxSteps := 4000000 }) only [↓sx0, ↓sx1, ↓sx2, ↓sx3, ↓sx4, ↓sx5, ↓sx6, sx0, sx1, sx2, sx3, sx4, sx5, sx6, tf109, ev3_hold, sxo, sxc, sxp, sxq, sxr, sxs, sxl, sxm, Int.reduceBEq, Int.reduceBNe, Int.reduceLT, Int.reduceLE, Int.reduceEq, Int.reduceGT, Int.reduceGE, Int.reduceToNat, ↓reduceIte, List.reduceReplicate, Nat.reduceAdd, Nat.reduceSub, Nat.reduceMul, Nat.reduceLT, Nat.reduceLeDiff, Nat.reduceBEq, Nat.reduceEqDiff, f8]
      exact ⟨q', H', by rw [k1], k2, k3, k4⟩
    · have u2 : ((y : Int) = (g.k : Int)) = False := eq_false (by omega)
      have hF : g.Fin 0 y g.voidI := Vg.Fin.void fun s' B hr => hyk (Vg.R_zero hr).1
      refine ⟨?_⟩
      simp (config := { maxSteps := 4000000 }) only [↓sx0, ↓sx1, ↓sx2, ↓sx3, ↓sx4, ↓sx5, ↓sx6, sx0, sx1, sx2, sx3, sx4, sx5, sx6, tf109, ev3_hold, sxo, sxc, sxp, sxq, sxr, sxs, sxl, sxm, Int.reduceBEq, Int.reduceBNe, Int.reduceLT, Int.reduceLE, Int.reduceEq, Int.reduceGT, Int.reduceGE, Int.reduceToNat, ↓reduceIte, List.reduceReplicate, Nat.reduceAdd, Nat.reduceSub, Nat.reduceMul, Nat.reduceLT, Nat.reduceLeDiff, Nat.reduceBEq, Nat.reduceEqDiff]
      refine at_1 (hrR _ (by simp)) slq_len hqRy hslq fun ad1 => ?_
      simp (config := { maxSteps := 4000000 }) only [↓sx0, ↓sx1, ↓sx2, ↓sx3, ↓sx4, ↓sx5, ↓sx6, sx0, sx1, sx2, sx3, sx4, sx5, sx6, tf109, ev3_hold, sxo, sxc, sxp, sxq, sxr, sxs, sxl, sxm, Int.reduceBEq, Int.reduceBNe, Int.reduceLT, Int.reduceLE, Int.reduceEq, Int.reduceGT, Int.reduceGE, Int.reduceToNat, ↓reduceIte, List.reduceReplicate, Nat.reduceAdd, Nat.reduceSub, Nat.reduceMul, Nat.reduceLT, Nat.reduceLeDiff, Nat.reduceBEq, Nat.reduceEqDiff, p7, dn]
      refine CallOb.pureH (fun w' hp => hsty _ w' hp) ?_
      rintro q N rfl
      obtain ⟨q', H', k1, k2, k3, k4⟩ := hnext _ N hF
      refine ⟨?_⟩
      simp (config := { maxSteps := 4000000 }) only [↓sx0, ↓sx1, ↓sx2, ↓sx3, ↓sx4, ↓sx5, ↓sx6, sx0, sx1, sx2, sx3, sx4, sx5, sx6, tf109, ev3_hold, sxo, sxc, sxp, sxq, sxr, sxs, sxl, sxm, Int.reduceBEq, Int.reduceBNe, Int.reduceLT, Int.reduceLE, Int.reduceEq, Int.reduceGT, Int.reduceGE, Int.reduceToNat, ↓reduceIte, List.reduceReplicate, Nat.reduceAdd, Nat.reduceSub, Nat.reduceMul, Nat.reduceLT, Nat.reduceLeDiff, Nat.reduceBEq, Nat.reduceEqDiff, u1, u2, f8]
      exact ⟨q', H', by rw [k1], k2, k3, k4⟩
  have u1 : (((g.t + i : Nat) : Int) = (g.t : Int)) = False := eq_false (by omega)
  obtain ⟨j, rfl⟩ : ∃ j, i = j + 1 := ⟨i - 1, by omega⟩
  have hRl := List.getElem?_eq_getElem (show j < tabs.length by omega)
  obtain ⟨R, hR⟩ : ∃ R, tabs[j]'(by omega) = R := ⟨_, rfl⟩
  rw [hR] at hRl
  have hTj := hTb j R hRl
  obtain ⟨b4, ab, hq4, habl, hb4, hFRm⟩ := hLI.2 j R hRl
  rw [hn] at hq4 hb4 habl
  rw [hm] at hb4 hFRm
  cases ad with
  | none => exact absurd (hadn rfl) (by omega)
  | some ad =>
  have tL : HO.row (.slice (some ad) (j + 1) cp) 104 1 (cat slq qs) ∈ TF := hT0F _ (by rw [← hT0]; exact List.mem_cons_self)
  have tB := hT0F _ (by rw [← hT0]; exact List.mem_cons_of_mem _ hb4)
  have tF : ∀ h ∈ FI s ab R, h ∈ TF := fun h hh => hT0F _ (by rw [← hT0]; exact List.mem_cons_of_mem _ (hFRm h hh))
  obtain ⟨L, hL⟩ : ∃ L, nbL g.c.W g.c.H y = L := ⟨_, rfl⟩
  have hLb : L.length ≤ 7 := by rw [← hL]; exact nbL_len _ _ _
  have hLin : ∀ x ∈ L, x < n := fun x hx => by rw [← hn]; exact nb_lt hg (by rw [hn]; exact hyl) (by rw [hL]; exact hx)
  have hnx := hne y hyl
  have hrow0 := Vg.RowI.init g j R y
  have hrowS := fun (J S X : Nat) (d : Nat → Nat → Prop) (Q : List Int) (h : g.RowI j R y d Q) (hS : S < s) (hX : L[J]? = some X) => h.step hg hTj (by omega) (by rw [hn]; exact hyl) (by rw [hm]; exact hS) (by rw [hL]; exact hX)
  have hrowM := fun (d d' : Nat → Nat → Prop) (Q : List Int) (h : g.RowI j R y d Q) (hd : ∀ a u, d' a u → u < s → a < L.length → d a u) => h.mono (d' := d') (by rw [hm, hL]; exact hd)
  have hrowF := fun (d : Nat → Nat → Prop) (Q : List Int) (h : g.RowI j R y d Q) (hd : ∀ a u, a < L.length → u < s → d a u) => h.fin hg hTj (by omega) (by rw [hn]; exact hyl) (by rw [Nat.add_assoc]; exact hcan) (by rw [hm, hL]; exact hd)
  rw [hL] at hnx
  refine ⟨?_⟩
  simp (config := { maxSteps := 4000000 }) only [↓sx0, ↓sx1, ↓sx2, ↓sx3, ↓sx4, ↓sx5, ↓sx6, sx0, sx1, sx2, sx3, sx4, sx5, sx6, tf109, ev3_hold, sxo, sxc, sxp, sxq, sxr, sxs, sxl, sxm, Int.reduceBEq, Int.reduceBNe, Int.reduceLT, Int.reduceLE, Int.reduceEq, Int.reduceGT, Int.reduceGE, Int.reduceToNat, ↓reduceIte, List.reduceReplicate, Nat.reduceAdd, Nat.reduceSub, Nat.reduceMul, Nat.reduceLT, Nat.reduceLeDiff, Nat.reduceBEq, Nat.reduceEqDiff]
  refine at_1 (hrR _ (by simp)) slq_len hqRy hslq fun ad1 => ?_
  simp (config := { maxSteps := 4000000 }) only [↓sx0, ↓sx1, ↓sx2, ↓sx3, ↓sx4, ↓sx5, ↓sx6, sx0, sx1, sx2, sx3, sx4, sx5, sx6, tf109, ev3_hold, sxo, sxc, sxp, sxq, sxr, sxs, sxl, sxm, Int.reduceBEq, Int.reduceBNe, Int.reduceLT, Int.reduceLE, Int.reduceEq, Int.reduceGT, Int.reduceGE, Int.reduceToNat, ↓reduceIte, List.reduceReplicate, Nat.reduceAdd, Nat.reduceSub, Nat.reduceMul, Nat.reduceLT, Nat.reduceLeDiff, Nat.reduceBEq, Nat.reduceEqDiff, p7, dn]
  refine CallOb.pureH (fun w' hp => hsty _ w' hp) ?_
  rintro q N rfl
  refine ⟨?_⟩
  simp (config := { maxSteps := 4000000 }) only [↓sx0, ↓sx1, ↓sx2, ↓sx3, ↓sx4, ↓sx5, ↓sx6, sx0, sx1, sx2, sx3, sx4, sx5, sx6, tf109, ev3_hold, sxo, sxc, sxp, sxq, sxr, sxs, sxl, sxm, Int.reduceBEq, Int.reduceBNe, Int.reduceLT, Int.reduceLE, Int.reduceEq, Int.reduceGT, Int.reduceGE, Int.reduceToNat, ↓reduceIte, List.reduceReplicate, Nat.reduceAdd, Nat.reduceSub, Nat.reduceMul, Nat.reduceLT, Nat.reduceLeDiff, Nat.reduceBEq, Nat.reduceEqDiff, u1, dn]
  refine CallOb.pureH (fun w' hp => hnx _ w' hp) ?_
  rintro q N2 hG
  obtain ⟨aq2, cq2, rfl⟩ := hG.shape
  have hll2 : (nts L).length = L.length := by unfold nts; rw [List.length_map]
  rw [hll2] at hG ⊢
  obtain ⟨TT, hTT⟩ : ∃ TT, N2 ++ (N ++ TF) = TT := ⟨_, rfl⟩
  have hperm : (N2 ++ (N ++ HO.row (.slice (some ⟨bq, 0, none⟩) s s) 3 1 (ints g.voidI) :: RW :: TF)).Perm (HO.row (.slice (some ⟨bq, 0, none⟩) s s) 3 1 (ints g.voidI) :: RW :: TT) := by
    rw [← hTT, ← List.append_assoc, ← List.append_assoc]
    exact (List.perm_middle (l₁ := N2 ++ N)).trans (List.Perm.cons _ (List.perm_middle (l₁ := N2 ++ N)))
  have hTm : ∀ h ∈ TF, h ∈ TT := fun h hh => by rw [← hTT]; simp [hh]
  have hrN := fun (H : List HO) (hm : ∀ h ∈ TT, h ∈ H) => hG.rdv (w0 := ⟨w, fun _ => False⟩) (H := H) i1_len (fun h hh => hm h (by rw [← hTT]; simp [hh]))
  have hLn : ∀ (a x : Nat), L[a]? = some x → (nts L)[a]? = some (x : Int) := fun a x h => by unfold nts; rw [List.getElem?_map, h]; rfl
  have hsubT : ∀ Q : List Int, HImp ⟨w, fun _ => False⟩ (HO.row (.slice (some ⟨bq, 0, none⟩) s s) 3 1 (ints Q) :: RW :: TT) ([] ++ HO.row (.slice (some ⟨bq, 0, none⟩) s s) 3 1 (ints Q) :: RW :: TF) := fun Q => by
    rw [← hTT, ← List.append_assoc]
    exact HImp.sub (((List.sublist_append_right _ _).cons_cons _).cons_cons _)
  refine ⟨?_⟩
  simp (config := { maxSteps := 4000000 }) only [↓sx0, ↓sx1, ↓sx2, ↓sx3, ↓sx4, ↓sx5, ↓sx6, sx0, sx1, sx2, sx3, sx4, sx5, sx6, tf109, ev3_hold, sxo, sxc, sxp, sxq, sxr, sxs, sxl, sxm, Int.reduceBEq, Int.reduceBNe, Int.reduceLT, Int.reduceLE, Int.reduceEq, Int.reduceGT, Int.reduceGE, Int.reduceToNat, ↓reduceIte, List.reduceReplicate, Nat.reduceAdd, Nat.reduceSub, Nat.reduceMul, Nat.reduceLT, Nat.reduceLeDiff, Nat.reduceBEq, Nat.reduceEqDiff]
  refine loop_constH (HO.row (.slice (some ⟨bq, 0, none⟩) s s) 3 1 (ints g.voidI) :: RW :: TT) (HImp.perm hperm) [(17, 20), (99, 157)] (fun q : Nat × List Int => [(17, I q.1)])
    (fun q H1 => q.1 ≤ L.length ∧ g.RowI j R y (fun a _ => a < q.1) q.2 ∧ H1 = HO.row (.slice (some ⟨bq, 0, none⟩) s s) 3 1 (ints q.2) :: RW :: TT) (fun q => L.length - q.1) (0, g.voidI) ?_ ⟨Nat.zero_le _, hrowM _ _ _ hrow0 fun a u h _ _ => by omega, rfl⟩ ?_
  · simp (config := { maxSteps := 4000000 }) only [↓sx0, ↓sx1, ↓sx2, ↓sx3, ↓sx4, ↓sx5, ↓sx6, sx0, sx1, sx2, sx3, sx4, sx5, sx6, tf109, ev3_hold, sxo, sxc, sxp, sxq, sxr, sxs, sxl, sxm, Int.reduceBEq, Int.reduceBNe, Int.reduceLT, Int.reduceLE, Int.reduceEq, Int.reduceGT, Int.reduceGE, Int.reduceToNat, ↓reduceIte, List.reduceReplicate, Nat.reduceAdd, Nat.reduceSub, Nat.reduceMul, Nat.reduceLT, Nat.reduceLeDiff, Nat.reduceBEq, Nat.reduceEqDiff]
    try simp
  rintro ⟨J, Q⟩ H4 g4 hinv4
  simp only [] at hinv4
  obtain ⟨hJ, hQ, rfl⟩ := hinv4
  by_cases hJn : J = L.length
  · have v7 : ((J : Int) < (L.length : Int)) = False := eq_false (by omega)
    have hF := hrowF _ _ hQ fun a u ha _ => by omega
    obtain ⟨q', H', k1, k2, k3, k4⟩ := hnext _ [] hF
    refine ⟨?_⟩
    simp (config := { maxSteps := 4000000 }) only [↓sx0, ↓sx1, ↓sx2, ↓sx3, ↓sx4, ↓sx5, ↓sx6, sx0, sx1, sx2, sx3, sx4, sx5, sx6, tf109, ev3_hold, sxo, sxc, sxp, sxq, sxr, sxs, sxl, sxm, Int.reduceBEq, Int.reduceBNe, Int.reduceLT, Int.reduceLE, Int.reduceEq, Int.reduceGT, Int.reduceGE, Int.reduceToNat, ↓reduceIte, List.reduceReplicate, Nat.reduceAdd, Nat.reduceSub, Nat.reduceMul, Nat.reduceLT, Nat.reduceLeDiff, Nat.reduceBEq, Nat.reduceEqDiff, v7, f8]
    exact ⟨q', H', by rw [k1], (hsubT Q).trans k2, k3, k4⟩
  have v7 : ((J : Int) < (L.length : Int)) = True := eq_true (by omega)
  have v8 : wr (J + 1) = ((J + 1 : Nat) : Int) := (wrap_id (by omega)).trans (by omega)
  obtain ⟨X, hX⟩ : ∃ X, L[J]? = some X := ⟨_, List.getElem?_eq_getElem (by omega)⟩
  have hXn := hLin X (List.mem_of_getElem? hX)
  have hwg := g.wg_bd hg X y
  obtain ⟨W, hWe⟩ : ∃ W, g.wg X y = W := ⟨_, rfl⟩
  have hat := fun (u : Nat) (hu : u < s) => hTj.at hg (by rw [hn]; exact hXn) (by rw [hm]; exact hu) (x := X) (s := u)
  have hstep := fun (S : Nat) (d : Nat → Nat → Prop) (Q : List Int) (h : g.RowI j R y d Q) (hS : S < s) => hrowS J S X d Q h hS hX
  have hRX := (hTj.2 X (by rw [hn]; exact hXn)).1
  have hRl2 : R[X]? = some (R.getD X []) := getD_at (by rw [hTj.1, hn]; exact hXn) _
  obtain ⟨aX, haX⟩ : ∃ aX, ab[X]? = some aX := ⟨_, List.getElem?_eq_getElem (by omega)⟩
  have haqX : (ab.map (aq s))[X]? = some (aq s aX) := by rw [List.getElem?_map, haX]; rfl
  have tX := tF _ (FI_mem haX hRl2)
  rw [hm] at hRX
  rw [hWe] at hwg
  simp only [hWe] at hstep
  refine ⟨?_⟩
  simp (config := { maxSteps := 4000000 }) only [↓sx0, ↓sx1, ↓sx2, ↓sx3, ↓sx4, ↓sx5, ↓sx6, sx0, sx1, sx2, sx3, sx4, sx5, sx6, tf109, ev3_hold, sxo, sxc, sxp, sxq, sxr, sxs, sxl, sxm, Int.reduceBEq, Int.reduceBNe, Int.reduceLT, Int.reduceLE, Int.reduceEq, Int.reduceGT, Int.reduceGE, Int.reduceToNat, ↓reduceIte, List.reduceReplicate, Nat.reduceAdd, Nat.reduceSub, Nat.reduceMul, Nat.reduceLT, Nat.reduceLeDiff, Nat.reduceBEq, Nat.reduceEqDiff, v7]
  refine cut_constH [(18, 18), (105, 114)] (fun _ : Unit => [(18, I W)]) (fun _ H2 => H2 = HO.row (.slice (some ⟨bq, 0, none⟩) s s) 3 1 (ints Q) :: RW :: TT) ?_ ?_
  · by_cases hXy : X = y
    · have v9 : ((X : Int) = (y : Int)) = True := eq_true (by omega)
      have hWi : g.b.idle = W := by rw [← hWe]; unfold Vg.wg; rw [if_pos hXy.symm]
      refine ⟨?_⟩
      simp (config := { maxSteps := 4000000 }) only [↓sx0, ↓sx1, ↓sx2, ↓sx3, ↓sx4, ↓sx5, ↓sx6, sx0, sx1, sx2, sx3, sx4, sx5, sx6, tf109, ev3_hold, sxo, sxc, sxp, sxq, sxr, sxs, sxl, sxm, Int.reduceBEq, Int.reduceBNe, Int.reduceLT, Int.reduceLE, Int.reduceEq, Int.reduceGT, Int.reduceGE, Int.reduceToNat, ↓reduceIte, List.reduceReplicate, Nat.reduceAdd, Nat.reduceSub, Nat.reduceMul, Nat.reduceLT, Nat.reduceLeDiff, Nat.reduceBEq, Nat.reduceEqDiff]
      refine at_1 (hrN _ (fun h hh => by simp [hh])) i1_len (hLn J X hX) rfl fun ad2 => ?_
      simp (config := { maxSteps := 4000000 }) only [↓sx0, ↓sx1, ↓sx2, ↓sx3, ↓sx4, ↓sx5, ↓sx6, sx0, sx1, sx2, sx3, sx4, sx5, sx6, tf109, ev3_hold, sxo, sxc, sxp, sxq, sxr, sxs, sxl, sxm, Int.reduceBEq, Int.reduceBNe, Int.reduceLT, Int.reduceLE, Int.reduceEq, Int.reduceGT, Int.reduceGE, Int.reduceToNat, ↓reduceIte, List.reduceReplicate, Nat.reduceAdd, Nat.reduceSub, Nat.reduceMul, Nat.reduceLT, Nat.reduceLeDiff, Nat.reduceBEq, Nat.reduceEqDiff, v9]
      exact ⟨(), _, by rw [hWi], HImp.refl _ _, rfl⟩
    · have v9 : ((X : Int) = (y : Int)) = False := eq_false (by omega)
      have hWi : g.b.move = W := by rw [← hWe]; unfold Vg.wg; rw [if_neg (fun h => hXy h.symm)]
      refine ⟨?_⟩
      simp (config := { maxSteps := 4000000 }) only [↓sx0, ↓sx1, ↓sx2, ↓sx3, ↓sx4, ↓sx5, ↓sx6, sx0, sx1, sx2, sx3, sx4, sx5, sx6, tf109, ev3_hold, sxo, sxc, sxp, sxq, sxr, sxs, sxl, sxm, Int.reduceBEq, Int.reduceBNe, Int.reduceLT, Int.reduceLE, Int.reduceEq, Int.reduceGT, Int.reduceGE, Int.reduceToNat, ↓reduceIte, List.reduceReplicate, Nat.reduceAdd, Nat.reduceSub, Nat.reduceMul, Nat.reduceLT, Nat.reduceLeDiff, Nat.reduceBEq, Nat.reduceEqDiff]
      refine at_1 (hrN _ (fun h hh => by simp [hh])) i1_len (hLn J X hX) rfl fun ad2 => ?_
      simp (config := { maxSteps := 4000000 }) only [↓sx0, ↓sx1, ↓sx2, ↓sx3, ↓sx4, ↓sx5, ↓sx6, sx0, sx1, sx2, sx3, sx4, sx5, sx6, tf109, ev3_hold, sxo, sxc, sxp, sxq, sxr, sxs, sxl, sxm, Int.reduceBEq, Int.reduceBNe, Int.reduceLT, Int.reduceLE, Int.reduceEq, Int.reduceGT, Int.reduceGE, Int.reduceToNat, ↓reduceIte, List.reduceReplicate, Nat.reduceAdd, Nat.reduceSub, Nat.reduceMul, Nat.reduceLT, Nat.reduceLeDiff, Nat.reduceBEq, Nat.reduceEqDiff, v9]
      exact ⟨(), _, by rw [hWi], HImp.refl _ _, rfl⟩
  rintro _ H5 g5 hH5
  subst hH5
  refine ⟨?_⟩
  simp (config := { maxSteps := 4000000 }) only [↓sx0, ↓sx1, ↓sx2, ↓sx3, ↓sx4, ↓sx5, ↓sx6, sx0, sx1, sx2, sx3, sx4, sx5, sx6, tf109, ev3_hold, sxo, sxc, sxp, sxq, sxr, sxs, sxl, sxm, Int.reduceBEq, Int.reduceBNe, Int.reduceLT, Int.reduceLE, Int.reduceEq, Int.reduceGT, Int.reduceGE, Int.reduceToNat, ↓reduceIte, List.reduceReplicate, Nat.reduceAdd, Nat.reduceSub, Nat.reduceMul, Nat.reduceLT, Nat.reduceLeDiff, Nat.reduceBEq, Nat.reduceEqDiff]
  refine loop_constH _ (HImp.refl _ _) [(19, 20), (115, 157)] (fun q : Nat × List Int => [(19, I q.1)])
    (fun q H1 => q.1 ≤ s ∧ g.RowI j R y (fun a u => a < J ∨ a = J ∧ u < q.1) q.2 ∧ H1 = HO.row (.slice (some ⟨bq, 0, none⟩) s s) 3 1 (ints q.2) :: RW :: TT) (fun q => s - q.1) (0, Q) ?_ ⟨Nat.zero_le _, hrowM _ _ _ hQ fun a u h _ _ => by omega, rfl⟩ ?_
  · simp (config := { maxSteps := 4000000 }) only [↓sx0, ↓sx1, ↓sx2, ↓sx3, ↓sx4, ↓sx5, ↓sx6, sx0, sx1, sx2, sx3, sx4, sx5, sx6, tf109, ev3_hold, sxo, sxc, sxp, sxq, sxr, sxs, sxl, sxm, Int.reduceBEq, Int.reduceBNe, Int.reduceLT, Int.reduceLE, Int.reduceEq, Int.reduceGT, Int.reduceGE, Int.reduceToNat, ↓reduceIte, List.reduceReplicate, Nat.reduceAdd, Nat.reduceSub, Nat.reduceMul, Nat.reduceLT, Nat.reduceLeDiff, Nat.reduceBEq, Nat.reduceEqDiff]
    try simp
  rintro ⟨u, Qu⟩ H6 g6 hinv6
  simp only [] at hinv6
  obtain ⟨hu, hQu, rfl⟩ := hinv6
  by_cases hun : u = s
  · have x7 : ((u : Int) < (s : Int)) = False := eq_false (by omega)
    refine ⟨?_⟩
    simp (config := { maxSteps := 4000000 }) only [↓sx0, ↓sx1, ↓sx2, ↓sx3, ↓sx4, ↓sx5, ↓sx6, sx0, sx1, sx2, sx3, sx4, sx5, sx6, tf109, ev3_hold, sxo, sxc, sxp, sxq, sxr, sxs, sxl, sxm, Int.reduceBEq, Int.reduceBNe, Int.reduceLT, Int.reduceLE, Int.reduceEq, Int.reduceGT, Int.reduceGE, Int.reduceToNat, ↓reduceIte, List.reduceReplicate, Nat.reduceAdd, Nat.reduceSub, Nat.reduceMul, Nat.reduceLT, Nat.reduceLeDiff, Nat.reduceBEq, Nat.reduceEqDiff, e2, x7, v8]
    exact ⟨(J + 1, Qu), _, rfl, HImp.refl _ _, ⟨by simp only []; omega, hrowM _ _ _ hQu fun a b h hb _ => by omega, rfl⟩, by simp only []; omega⟩
  have x7 : ((u : Int) < (s : Int)) = True := eq_true (by omega)
  have x8 : wr (u + 1) = ((u + 1 : Nat) : Int) := (wrap_id (by omega)).trans (by omega)
  have hul : u < s := by omega
  have dS := hZ y u hul
  have hstl := g.st_le (y := y) (s := u) (by omega)
  have hstep2 := hstep u _ _ hQu hul
  obtain ⟨S1, hS1⟩ : ∃ S1, g.st y u = S1 := ⟨_, rfl⟩
  rw [hS1] at dS hstl hstep2
  have hatu := hat u hul
  have hXu : (R.getD X [])[u]? = some (ei R X u) := getD_at (by omega) 0
  obtain ⟨V, hV⟩ : ∃ V, ei R X u = V := ⟨_, rfl⟩
  rw [hV] at hstep2 hatu hXu
  have hQul := hQu.len
  have hcur : Qu[S1]? = some (Qu.getD S1 0) := getD_at (by omega) 0
  obtain ⟨C, hC⟩ : ∃ C, Qu.getD S1 0 = C := ⟨_, rfl⟩
  rw [hC] at hcur hstep2
  have x9 : wr (((g.t + (j + 1) : Nat) : Int) - (g.t : Int)) = ((j + 1 : Nat) : Int) := (wrap_id (by omega)).trans (by omega)
  have x10 : wr (((j + 1 : Nat) : Int) - 1) = (j : Int) := (wrap_id (by omega)).trans (by omega)
  have x11 : wr (V + W) = V + W := by unfold nv40 at hatu; exact wrap_id (by omega)
  refine ⟨?_⟩
  simp (config := { maxSteps := 4000000 }) only [↓sx0, ↓sx1, ↓sx2, ↓sx3, ↓sx4, ↓sx5, ↓sx6, sx0, sx1, sx2, sx3, sx4, sx5, sx6, tf109, ev3_hold, sxo, sxc, sxp, sxq, sxr, sxs, sxl, sxm, Int.reduceBEq, Int.reduceBNe, Int.reduceLT, Int.reduceLE, Int.reduceEq, Int.reduceGT, Int.reduceGE, Int.reduceToNat, ↓reduceIte, List.reduceReplicate, Nat.reduceAdd, Nat.reduceSub, Nat.reduceMul, Nat.reduceLT, Nat.reduceLeDiff, Nat.reduceBEq, Nat.reduceEqDiff, e2, x7, dS]
  refine at_1 (hrR _ (by simp)) slq_len hqRy hslq fun ad1 => ?_
  simp (config := { maxSteps := 4000000 }) only [↓sx0, ↓sx1, ↓sx2, ↓sx3, ↓sx4, ↓sx5, ↓sx6, sx0, sx1, sx2, sx3, sx4, sx5, sx6, tf109, ev3_hold, sxo, sxc, sxp, sxq, sxr, sxs, sxl, sxm, Int.reduceBEq, Int.reduceBNe, Int.reduceLT, Int.reduceLE, Int.reduceEq, Int.reduceGT, Int.reduceGE, Int.reduceToNat, ↓reduceIte, List.reduceReplicate, Nat.reduceAdd, Nat.reduceSub, Nat.reduceMul, Nat.reduceLT, Nat.reduceLeDiff, Nat.reduceBEq, Nat.reduceEqDiff]
  refine at_1 (hrR _ (by simp)) slq_len hqRy hslq fun ad1 => ?_
  simp (config := { maxSteps := 4000000 }) only [↓sx0, ↓sx1, ↓sx2, ↓sx3, ↓sx4, ↓sx5, ↓sx6, sx0, sx1, sx2, sx3, sx4, sx5, sx6, tf109, ev3_hold, sxo, sxc, sxp, sxq, sxr, sxs, sxl, sxm, Int.reduceBEq, Int.reduceBNe, Int.reduceLT, Int.reduceLE, Int.reduceEq, Int.reduceGT, Int.reduceGE, Int.reduceToNat, ↓reduceIte, List.reduceReplicate, Nat.reduceAdd, Nat.reduceSub, Nat.reduceMul, Nat.reduceLT, Nat.reduceLeDiff, Nat.reduceBEq, Nat.reduceEqDiff]
  refine at_1 (row_rdS (E := 3) List.mem_cons_self i1_len (by omega)) i1_len hcur rfl fun ad2 => ?_
  simp (config := { maxSteps := 4000000 }) only [↓sx0, ↓sx1, ↓sx2, ↓sx3, ↓sx4, ↓sx5, ↓sx6, sx0, sx1, sx2, sx3, sx4, sx5, sx6, tf109, ev3_hold, sxo, sxc, sxp, sxq, sxr, sxs, sxl, sxm, Int.reduceBEq, Int.reduceBNe, Int.reduceLT, Int.reduceLE, Int.reduceEq, Int.reduceGT, Int.reduceGE, Int.reduceToNat, ↓reduceIte, List.reduceReplicate, Nat.reduceAdd, Nat.reduceSub, Nat.reduceMul, Nat.reduceLT, Nat.reduceLeDiff, Nat.reduceBEq, Nat.reduceEqDiff, x9, x10]
  refine at_1 (row_rdS (E := 104) (List.mem_cons_of_mem _ (List.mem_cons_of_mem _ (hTm _ tL))) slq_len (by omega)) slq_len hq4 rfl fun ad3 => ?_
  simp (config := { maxSteps := 4000000 }) only [↓sx0, ↓sx1, ↓sx2, ↓sx3, ↓sx4, ↓sx5, ↓sx6, sx0, sx1, sx2, sx3, sx4, sx5, sx6, tf109, ev3_hold, sxo, sxc, sxp, sxq, sxr, sxs, sxl, sxm, Int.reduceBEq, Int.reduceBNe, Int.reduceLT, Int.reduceLE, Int.reduceEq, Int.reduceGT, Int.reduceGE, Int.reduceToNat, ↓reduceIte, List.reduceReplicate, Nat.reduceAdd, Nat.reduceSub, Nat.reduceMul, Nat.reduceLT, Nat.reduceLeDiff, Nat.reduceBEq, Nat.reduceEqDiff]
  refine at_1 (hrN _ (fun h hh => by simp [hh])) i1_len (hLn J X hX) rfl fun ad4 => ?_
  simp (config := { maxSteps := 4000000 }) only [↓sx0, ↓sx1, ↓sx2, ↓sx3, ↓sx4, ↓sx5, ↓sx6, sx0, sx1, sx2, sx3, sx4, sx5, sx6, tf109, ev3_hold, sxo, sxc, sxp, sxq, sxr, sxs, sxl, sxm, Int.reduceBEq, Int.reduceBNe, Int.reduceLT, Int.reduceLE, Int.reduceEq, Int.reduceGT, Int.reduceGE, Int.reduceToNat, ↓reduceIte, List.reduceReplicate, Nat.reduceAdd, Nat.reduceSub, Nat.reduceMul, Nat.reduceLT, Nat.reduceLeDiff, Nat.reduceBEq, Nat.reduceEqDiff]
  refine at_1 (row_rdS (E := 22) (List.mem_cons_of_mem _ (List.mem_cons_of_mem _ (hTm _ tB))) slq_len (by rw [List.length_map, habl])) slq_len haqX (show slq (aq _ _) = [Value.slice (some aX) s s] from rfl) fun ad5 => ?_
  simp (config := { maxSteps := 4000000 }) only [↓sx0, ↓sx1, ↓sx2, ↓sx3, ↓sx4, ↓sx5, ↓sx6, sx0, sx1, sx2, sx3, sx4, sx5, sx6, tf109, ev3_hold, sxo, sxc, sxp, sxq, sxr, sxs, sxl, sxm, Int.reduceBEq, Int.reduceBNe, Int.reduceLT, Int.reduceLE, Int.reduceEq, Int.reduceGT, Int.reduceGE, Int.reduceToNat, ↓reduceIte, List.reduceReplicate, Nat.reduceAdd, Nat.reduceSub, Nat.reduceMul, Nat.reduceLT, Nat.reduceLeDiff, Nat.reduceBEq, Nat.reduceEqDiff]
  refine at_1 (row_rdS (E := 3) (List.mem_cons_of_mem _ (List.mem_cons_of_mem _ (hTm _ tX))) i1_len (by omega)) i1_len hXu rfl fun ad6 => ?_
  simp (config := { maxSteps := 4000000 }) only [↓sx0, ↓sx1, ↓sx2, ↓sx3, ↓sx4, ↓sx5, ↓sx6, sx0, sx1, sx2, sx3, sx4, sx5, sx6, tf109, ev3_hold, sxo, sxc, sxp, sxq, sxr, sxs, sxl, sxm, Int.reduceBEq, Int.reduceBNe, Int.reduceLT, Int.reduceLE, Int.reduceEq, Int.reduceGT, Int.reduceGE, Int.reduceToNat, ↓reduceIte, List.reduceReplicate, Nat.reduceAdd, Nat.reduceSub, Nat.reduceMul, Nat.reduceLT, Nat.reduceLeDiff, Nat.reduceBEq, Nat.reduceEqDiff, x11]
  refine ⟨by omega, by omega, _, rfl, ?_⟩
  refine wr_at (A := []) (f := i1) (u := min C (V + W)) rfl i1_len (by omega) (by omega) ?_
  simp (config := { maxSteps := 4000000 }) only [↓sx0, ↓sx1, ↓sx2, ↓sx3, ↓sx4, ↓sx5, ↓sx6, sx0, sx1, sx2, sx3, sx4, sx5, sx6, tf109, ev3_hold, sxo, sxc, sxp, sxq, sxr, sxs, sxl, sxm, Int.reduceBEq, Int.reduceBNe, Int.reduceLT, Int.reduceLE, Int.reduceEq, Int.reduceGT, Int.reduceGE, Int.reduceToNat, ↓reduceIte, List.reduceReplicate, Nat.reduceAdd, Nat.reduceSub, Nat.reduceMul, Nat.reduceLT, Nat.reduceLeDiff, Nat.reduceBEq, Nat.reduceEqDiff, x8]
  exact ⟨(u + 1, Qu.set S1 (min C (V + W))), _, rfl, HImp.refl _ _, ⟨by simp only []; omega, hrowM _ _ _ hstep2 fun a b h hb _ => by omega, rfl⟩, by simp only []; omega⟩
end Go.Proofs.YtcnlbnccbnapbaaDoor
