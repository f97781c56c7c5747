/- A part of a proof: the symbolic walk and what it shows of single functions. -/
import Derived.Test.YtcnlbnccbnapbaaDoorSsF
import Derived.Test.YtcnlbnccbnapbaaDoorP7
set_option linter.all false
namespace Go.Proofs.YtcnlbnccbnapbaaDoor
open Go.RowKit Go.SX
set_option maxRecDepth 10000
set_option maxHeartbeats 0
set_option linter.unusedSimpArgs false
set_option linter.unusedVariables false
def CInv (g : Vg) (rdy : Nat → Bool) (i : Nat) (bn en : Int) : Prop :=
  (bn = nv40 ∧ en = 0 ∧ ∀ i' B', i' < i → rdy (g.t + i') = true → ¬ g.R i' (g.ts + 1) g.k B') ∨
  ∃ m, m < i ∧ rdy (g.t + m) = true ∧ g.R m (g.ts + 1) g.k bn ∧ en = ((g.t + m : Nat) : Int) ∧ ∀ i' B', i' < i → rdy (g.t + i') = true → g.R i' (g.ts + 1) g.k B' → bn ≤ B' ∧ (B' = bn → m ≤ i')
theorem CInv.top {g : Vg} (hg : g.Ok) {rdy : Nat → Bool} {i : Nat} (hi : i ≤ 100) {bn en : Int} (h : CInv g rdy i bn en) : bn = nv40 ∨ 0 ≤ bn ∧ bn ≤ 10000 := by
  rcases h with ⟨h, _⟩ | ⟨m, h1, _, h2, _⟩
  · exact .inl h
  · have := g.R_bd hg h2
    exact .inr ⟨by omega, by omega⟩
theorem CInv.skip {g : Vg} {rdy : Nat → Bool} {i : Nat} {bn en : Int} (h : CInv g rdy i bn en) (hr : rdy (g.t + i) = false) : CInv g rdy (i + 1) bn en := by
  rcases h with ⟨h1, h2, h3⟩ | ⟨m, h1, h2, h3, h4, h5⟩
  · refine .inl ⟨h1, h2, fun i' B' hi hr' => ?_⟩
    by_cases e : i' = i
    · subst e; rw [hr] at hr'; cases hr'
    · exact h3 i' B' (by omega) hr'
  · refine .inr ⟨m, by omega, h2, h3, h4, fun i' B' hi hr' hR => ?_⟩
    by_cases e : i' = i
    · subst e; rw [hr] at hr'; cases hr'
    · exact h5 i' B' (by omega) hr' hR
theorem CInv.less {g : Vg} (hg : g.Ok) {rdy : Nat → Bool} {i : Nat} (hi : i ≤ 100) {bn en v : Int} (h : CInv g rdy i bn en) (hr : rdy (g.t + i) = true) (hv : v = nv40 ∨ g.R i (g.ts + 1) g.k v) (hl : ∀ B, g.R i (g.ts + 1) g.k B → v ≤ B) (hlt : v < bn) : CInv g rdy (i + 1) v ((g.t + i : Nat) : Int) := by
  have ht := h.top hg hi
  have hv' : g.R i (g.ts + 1) g.k v := by
    rcases hv with h0 | h0
    · unfold nv40 at h0 ht; omega
    · exact h0
  refine .inr ⟨i, by omega, hr, hv', rfl, fun i' B' hi' hr' hR => ?_⟩
  by_cases e : i' = i
  · subst e
    exact ⟨hl B' hR, fun _ => Nat.le_refl _⟩
  · rcases h with ⟨h1, h2, h3⟩ | ⟨m, h1, h2, h3, h4, h5⟩
    · exact absurd hR (h3 i' B' (by omega) hr')
    · have := (h5 i' B' (by omega) hr' hR).1
      exact ⟨by omega, fun h => by omega⟩
theorem CInv.keep {g : Vg} (hg : g.Ok) {rdy : Nat → Bool} {i : Nat} (hi : i ≤ 100) {bn en v : Int} (h : CInv g rdy i bn en) (hv : v = nv40 ∨ g.R i (g.ts + 1) g.k v) (hl : ∀ B, g.R i (g.ts + 1) g.k B → v ≤ B) (hlt : ¬ v < bn) : CInv g rdy (i + 1) bn en := by
  rcases h with ⟨h1, h2, h3⟩ | ⟨m, h1, h2, h3, h4, h5⟩
  · refine .inl ⟨h1, h2, fun i' B' hi' hr' hR => ?_⟩
    by_cases e : i' = i
    · subst e
      have := hl B' hR
      have := g.R_bd hg hR
      unfold nv40 at h1
      omega
    · exact h3 i' B' (by omega) hr' hR
  · refine .inr ⟨m, by omega, h2, h3, h4, fun i' B' hi' hr' hR => ?_⟩
    by_cases e : i' = i
    · subst e
      have := hl B' hR
      exact ⟨by omega, fun _ => by omega⟩
    · exact h5 i' B' (by omega) hr' hR
def CheapP (g : Vg) (rdy : Nat → Bool) (bn en : Int) : Prop := (bn = nv40 ∧ en = 0 ∧ g.None rdy) ∨ ∃ m, g.Best rdy m bn ∧ en = ((g.t + m : Nat) : Int)
theorem CInv.fin {g : Vg} {rdy : Nat → Bool} {bn en : Int} (h : CInv g rdy (g.c.tide.length - g.t) bn en) : CheapP g rdy bn en := by
  rcases h with ⟨h1, h2, h3⟩ | ⟨m, h1, h2, h3, h4, h5⟩
  · exact .inl ⟨h1, h2, fun i B' hi hr => h3 i B' (by omega) hr⟩
  · exact .inr ⟨m, ⟨by omega, h2, h3, fun i B' hi hr hR => h5 i B' (by omega) hr hR⟩, h4⟩
theorem rcheapest_fn (w : World) (hw : Ways w) (v : Value) (g : Vg) (hg : g.Ok) (hc : ChOk w v g.c) (r : Rmp) (hr : rampB g.c r = true) (hkr : r.cell = g.k) (hrdy : rdyB g.c g.b r g.t = true) :
    SX.Fn Tryd.prog 83 [v, clv g.b, rmv r, I g.t, .agg #[I g.tc, I g.ts]] w (fun _ => False) fun q N => ∃ bn en, q = .tuple #[I bn, I en] ∧ CheapP g (rdyB g.c g.b r) bn en := by
  have hc0 := hc
  have hok := hg.ok
  have hle := fun (H : List HO) w' (hp : Hp ⟨w, fun _ => False⟩ H w') => rleast_fn w' (hw.hp hp) v g hg (hc0.hp hp) r hr hkr hrdy
  have hrd := fun (T : Nat) (hT : T < g.c.tide.length) (H : List HO) w' (hp : Hp ⟨w, fun _ => False⟩ H w') => rready5_fn w' (hw.hp hp) v g.c (hc0.hp hp) hok g.b r hg.cls hr T hT
  obtain ⟨sD, sT, sS, rfl, hsD, hsT, hsS⟩ := hc
  have h60 := hok.2.2.2.1
  have hts := hg.ts
  have ht0 := hg.t
  have hk0 := hg.k
  have dn : ∀ (g : Nat) (xs : List Value), det0 g xs = none := fun _ _ => rfl
  obtain ⟨rdy, hrdyE⟩ : ∃ rdy, rdyB g.c g.b r = rdy := ⟨_, rfl⟩
  rw [hrdyE]
  simp only [hrdyE] at hrd
  obtain ⟨rc, rdr, rl, rm, rs⟩ := r
  simp only [] at hkr
  subst hkr
  unfold clv rmv at hle hrd
  unfold clv rmv
  have e1 : wr ((g.ts : Int) + 1) = ((g.ts + 1 : Nat) : Int) := (wrap_id (by omega)).trans (by omega)
  refine walk [] [] (det0_ok _ _) Tryd.func83 rfl Tryd.ntmps83 res83 (by kernel_rfl) no_facts ?_
  simp (config := { maxSteps := 4000000 }) only [↓sx0, ↓sx1, ↓sx2, ↓sx3, ↓sx4, ↓sx5, ↓sx6, sx0, sx1, sx2, sx3, sx4, sx5, sx6, tf83, ev3_hold, sxo, sxc, sxp, sxq, sxr, sxs, sxl, sxm, Int.reduceBEq, Int.reduceBNe, Int.reduceLT, Int.reduceLE, Int.reduceEq, Int.reduceGT, Int.reduceGE, Int.reduceToNat, ↓reduceIte, List.reduceReplicate, Nat.reduceAdd, Nat.reduceSub, Nat.reduceMul, Nat.reduceLT, Nat.reduceLeDiff, Nat.reduceBEq, Nat.reduceEqDiff, dn]
  refine CallOb.pureH (fun w' hp => hle _ w' hp) ?_
  rintro q N ⟨ad, cp, qs, tabs, rfl, hadn, hrow, hLI, hTb, htl⟩
  have hrL := row_rdv (w0 := ⟨w, fun _ => False⟩) (H := N) (v := .slice ad tabs.length cp) (E := 104) (sz := 1) (xs := cat slq qs) hrow ⟨_, _, _, rfl, by rw [cat_len slq_len, hLI.1], fun h => by have := hLI.1; rw [hadn h] at this; rw [List.eq_nil_of_length_eq_zero this]; rfl⟩
  refine ⟨?_⟩
  simp (config := { maxSteps := 4000000 }) only [↓sx0, ↓sx1, ↓sx2, ↓sx3, ↓sx4, ↓sx5, ↓sx6, sx0, sx1, sx2, sx3, sx4, sx5, sx6, tf83, ev3_hold, sxo, sxc, sxp, sxq, sxr, sxs, sxl, sxm, Int.reduceBEq, Int.reduceBNe, Int.reduceLT, Int.reduceLE, Int.reduceEq, Int.reduceGT, Int.reduceGE, Int.reduceToNat, ↓reduceIte, List.reduceReplicate, Nat.reduceAdd, Nat.reduceSub, Nat.reduceMul, Nat.reduceLT, Nat.reduceLeDiff, Nat.reduceBEq, Nat.reduceEqDiff]
  refine loop_constH N (by simpa using HImp.refl _ _) [(13, 16), (23, 57)] (fun q : Nat × Int × Int => [(13, I q.2.1), (14, I q.2.2), (15, I q.1)]) (fun q H1 => q.1 ≤ tabs.length ∧ CInv g rdy q.1 q.2.1 q.2.2 ∧ H1 = N) (fun q => tabs.length - q.1) (0, nv40, 0) ?_ ⟨Nat.zero_le _, .inl ⟨rfl, rfl, fun i' B' h => by omega⟩, rfl⟩ ?_
  · simp (config := { maxSteps := 4000000 }) only [↓sx0, ↓sx1, ↓sx2, ↓sx3, ↓sx4, ↓sx5, ↓sx6, sx0, sx1, sx2, sx3, sx4, sx5, sx6, tf83, ev3_hold, sxo, sxc, sxp, sxq, sxr, sxs, sxl, sxm, Int.reduceBEq, Int.reduceBNe, Int.reduceLT, Int.reduceLE, Int.reduceEq, Int.reduceGT, Int.reduceGE, Int.reduceToNat, ↓reduceIte, List.reduceReplicate, Nat.reduceAdd, Nat.reduceSub, Nat.reduceMul, Nat.reduceLT, Nat.reduceLeDiff, Nat.reduceBEq, Nat.reduceEqDiff]
    try simp [nv40]
  rintro ⟨i, bn, en⟩ H1 g1 hinv
  simp only [] at hinv
  obtain ⟨hi, hI, hH1⟩ := hinv
  have hH2 := hH1.symm
  subst hH2
  by_cases hin : i = tabs.length
  · have e7 : ((i : Int) < (tabs.length : Int)) = False := eq_false (by omega)
    rw [hin, htl] at hI
    refine ⟨?_⟩
    simp (config := { maxSteps := 4000000 }) only [↓sx0, ↓sx1, ↓sx2, ↓sx3, ↓sx4, ↓sx5, ↓sx6, sx0, sx1, sx2, sx3, sx4, sx5, sx6, tf83, ev3_hold, sxo, sxc, sxp, sxq, sxr, sxs, sxl, sxm, Int.reduceBEq, Int.reduceBNe, Int.reduceLT, Int.reduceLE, Int.reduceEq, Int.reduceGT, Int.reduceGE, Int.reduceToNat, ↓reduceIte, List.reduceReplicate, Nat.reduceAdd, Nat.reduceSub, Nat.reduceMul, Nat.reduceLT, Nat.reduceLeDiff, Nat.reduceBEq, Nat.reduceEqDiff, e7]
    exact ⟨bn, en, rfl, hI.fin⟩
  have e7 : ((i : Int) < (tabs.length : Int)) = True := eq_true (by omega)
  have e8 : wr (i + 1) = ((i + 1 : Nat) : Int) := (wrap_id (by omega)).trans (by omega)
  have e9 : wr ((g.t : Int) + (i : Int)) = ((g.t + i : Nat) : Int) := (wrap_id (by omega)).trans (by omega)
  have hRl := List.getElem?_eq_getElem (show i < tabs.length by omega)
  obtain ⟨R, hR⟩ : ∃ R, tabs[i]'(by omega) = R := ⟨_, rfl⟩
  rw [hR] at hRl
  have hTi := hTb i R hRl
  obtain ⟨b4, ab, hq4, habl, hb4, hFm⟩ := hLI.2 i R hRl
  have hRX := hTi.2 g.k hk0
  have hRk : R[g.k]? = some (R.getD g.k []) := getD_at (by rw [hTi.1]; exact hk0) _
  obtain ⟨aX, haX⟩ : ∃ aX, ab[g.k]? = some aX := ⟨_, List.getElem?_eq_getElem (by omega)⟩
  have haqX : (ab.map (aq (g.ts + 2)))[g.k]? = some (aq (g.ts + 2) aX) := by rw [List.getElem?_map, haX]; rfl
  have tX := hFm _ (FI_mem haX hRk)
  have hVu : (R.getD g.k [])[g.ts + 1]? = some ((R.getD g.k []).getD (g.ts + 1) 0) := getD_at (by rw [hRX.1]; omega) 0
  have hv1 := hRX.2.1 (g.ts + 1) (by omega)
  have hv2 := fun B h => hRX.2.2 (g.ts + 1) B h
  have hvl := hRX.1
  obtain ⟨Q, hQ⟩ : ∃ Q, R.getD g.k [] = Q := ⟨_, rfl⟩
  rw [hQ] at hVu hv1 hv2 hvl tX
  obtain ⟨V, hV⟩ : ∃ V, Q.getD (g.ts + 1) 0 = V := ⟨_, rfl⟩
  rw [hV] at hVu hv1 hv2
  have hrdT := hrd (g.t + i) (by omega)
  have hless := hI.less hg (by omega) (v := V)
  have hkeep := hI.keep hg (by omega) hv1 hv2
  have hskip := hI.skip
  cases hri : rdy (g.t + i) with
  | false =>
    rw [hri] at hrdT
    refine ⟨?_⟩
    simp (config := { maxSteps := 4000000 }) only [↓sx0, ↓sx1, ↓sx2, ↓sx3, ↓sx4, ↓sx5, ↓sx6, sx0, sx1, sx2, sx3, sx4, sx5, sx6, tf83, ev3_hold, sxo, sxc, sxp, sxq, sxr, sxs, sxl, sxm, Int.reduceBEq, Int.reduceBNe, Int.reduceLT, Int.reduceLE, Int.reduceEq, Int.reduceGT, Int.reduceGE, Int.reduceToNat, ↓reduceIte, List.reduceReplicate, Nat.reduceAdd, Nat.reduceSub, Nat.reduceMul, Nat.reduceLT, Nat.reduceLeDiff, Nat.reduceBEq, Nat.reduceEqDiff, e7]
    refine amid (at_1 hrL slq_len hq4 rfl fun ad1 => ?_)
    simp (config := { maxSteps := 4000000 }) only [↓sx0, ↓sx1, ↓sx2, ↓sx3, ↓sx4, ↓sx5, ↓sx6, sx0, sx1, sx2, sx3, sx4, sx5, sx6, tf83, ev3_hold, sxo, sxc, sxp, sxq, sxr, sxs, sxl, sxm, Int.reduceBEq, Int.reduceBNe, Int.reduceLT, Int.reduceLE, Int.reduceEq, Int.reduceGT, Int.reduceGE, Int.reduceToNat, ↓reduceIte, List.reduceReplicate, Nat.reduceAdd, Nat.reduceSub, Nat.reduceMul, Nat.reduceLT, Nat.reduceLeDiff, Nat.reduceBEq, Nat.reduceEqDiff]
    refine at_1 (row_rdS (E := 22) hb4 slq_len (by rw [List.length_map, habl])) slq_len haqX (show slq (aq _ _) = [Value.slice (some aX) (g.ts + 2) (g.ts + 2)] from rfl) fun ad2 => ?_
    simp (config := { maxSteps := 4000000 }) only [↓sx0, ↓sx1, ↓sx2, ↓sx3, ↓sx4, ↓sx5, ↓sx6, sx0, sx1, sx2, sx3, sx4, sx5, sx6, tf83, ev3_hold, sxo, sxc, sxp, sxq, sxr, sxs, sxl, sxm, Int.reduceBEq, Int.reduceBNe, Int.reduceLT, Int.reduceLE, Int.reduceEq, Int.reduceGT, Int.reduceGE, Int.reduceToNat, ↓reduceIte, List.reduceReplicate, Nat.reduceAdd, Nat.reduceSub, Nat.reduceMul, Nat.reduceLT, Nat.reduceLeDiff, Nat.reduceBEq, Nat.reduceEqDiff, e1]
    refine at_1 (row_rdS (E := 3) tX i1_len hvl) i1_len hVu rfl fun ad3 => ?_
    simp (config := { maxSteps := 4000000 }) only [↓sx0, ↓sx1, ↓sx2, ↓sx3, ↓sx4, ↓sx5, ↓sx6, sx0, sx1, sx2, sx3, sx4, sx5, sx6, tf83, ev3_hold, sxo, sxc, sxp, sxq, sxr, sxs, sxl, sxm, Int.reduceBEq, Int.reduceBNe, Int.reduceLT, Int.reduceLE, Int.reduceEq, Int.reduceGT, Int.reduceGE, Int.reduceToNat, ↓reduceIte, List.reduceReplicate, Nat.reduceAdd, Nat.reduceSub, Nat.reduceMul, Nat.reduceLT, Nat.reduceLeDiff, Nat.reduceBEq, Nat.reduceEqDiff, e9, dn]
    refine CallOb.pureH (fun w' hp => hrdT _ w' hp) ?_
    rintro q N2 rfl
    refine ⟨?_⟩
    simp (config := { maxSteps := 4000000 }) only [↓sx0, ↓sx1, ↓sx2, ↓sx3, ↓sx4, ↓sx5, ↓sx6, sx0, sx1, sx2, sx3, sx4, sx5, sx6, tf83, ev3_hold, sxo, sxc, sxp, sxq, sxr, sxs, sxl, sxm, Int.reduceBEq, Int.reduceBNe, Int.reduceLT, Int.reduceLE, Int.reduceEq, Int.reduceGT, Int.reduceGE, Int.reduceToNat, ↓reduceIte, List.reduceReplicate, Nat.reduceAdd, Nat.reduceSub, Nat.reduceMul, Nat.reduceLT, Nat.reduceLeDiff, Nat.reduceBEq, Nat.reduceEqDiff, e8]
    exact ⟨(i + 1, bn, en), _, ⟨rfl, rfl, rfl⟩, HImp.app _ _ _, ⟨by simp only []; omega, hskip hri, rfl⟩, by simp only []; omega⟩
  | true =>
    rw [hri] at hrdT
    by_cases hlt : V < bn
    · have p1 : (V < bn) = True := eq_true hlt
      refine ⟨?_⟩
      simp (config := { maxSteps := 4000000 }) only [↓sx0, ↓sx1, ↓sx2, ↓sx3, ↓sx4, ↓sx5, ↓sx6, sx0, sx1, sx2, sx3, sx4, sx5, sx6, tf83, ev3_hold, sxo, sxc, sxp, sxq, sxr, sxs, sxl, sxm, Int.reduceBEq, Int.reduceBNe, Int.reduceLT, Int.reduceLE, Int.reduceEq, Int.reduceGT, Int.reduceGE, Int.reduceToNat, ↓reduceIte, List.reduceReplicate, Nat.reduceAdd, Nat.reduceSub, Nat.reduceMul, Nat.reduceLT, Nat.reduceLeDiff, Nat.reduceBEq, Nat.reduceEqDiff, e7]
      refine amid (at_1 hrL slq_len hq4 rfl fun ad1 => ?_)
      simp (config := { maxSteps := 4000000 }) only [↓sx0, ↓sx1, ↓sx2, ↓sx3, ↓sx4, ↓sx5, ↓sx6, sx0, sx1, sx2, sx3, sx4, sx5, sx6, tf83, ev3_hold, sxo, sxc, sxp, sxq, sxr, sxs, sxl, sxm, Int.reduceBEq, Int.reduceBNe, Int.reduceLT, Int.reduceLE, Int.reduceEq, Int.reduceGT, Int.reduceGE, Int.reduceToNat, ↓reduceIte, List.reduceReplicate, Nat.reduceAdd, Nat.reduceSub, Nat.reduceMul, Nat.reduceLT, Nat.reduceLeDiff, Nat.reduceBEq, Nat.reduceEqDiff]
      refine at_1 (row_rdS (E := 22) hb4 slq_len (by rw [List.length_map, habl])) slq_len haqX (show slq (aq _ _) = [Value.slice (some aX) (g.ts + 2) (g.ts + 2)] from rfl) fun ad2 => ?_
      simp (config := { maxSteps := 4000000 }) only [↓sx0, ↓sx1, ↓sx2, ↓sx3, ↓sx4, ↓sx5, ↓sx6, sx0, sx1, sx2, sx3, sx4, sx5, sx6, tf83, ev3_hold, sxo, sxc, sxp, sxq, sxr, sxs, sxl, sxm, Int.reduceBEq, Int.reduceBNe, Int.reduceLT, Int.reduceLE, Int.reduceEq, Int.reduceGT, Int.reduceGE, Int.reduceToNat, ↓reduceIte, List.reduceReplicate, Nat.reduceAdd, Nat.reduceSub, Nat.reduceMul, Nat.reduceLT, Nat.reduceLeDiff, Nat.reduceBEq, Nat.reduceEqDiff, e1]
      refine at_1 (row_rdS (E := 3) tX i1_len hvl) i1_len hVu rfl fun ad3 => ?_
      simp (config := { maxSteps := 4000000 }) only [↓sx0, ↓sx1, ↓sx2, ↓sx3, ↓sx4, ↓sx5, ↓sx6, sx0, sx1, sx2, sx3, sx4, sx5, sx6, tf83, ev3_hold, sxo, sxc, sxp, sxq, sxr, sxs, sxl, sxm, Int.reduceBEq, Int.reduceBNe, Int.reduceLT, Int.reduceLE, Int.reduceEq, Int.reduceGT, Int.reduceGE, Int.reduceToNat, ↓reduceIte, List.reduceReplicate, Nat.reduceAdd, Nat.reduceSub, Nat.reduceMul, Nat.reduceLT, Nat.reduceLeDiff, Nat.reduceBEq, Nat.reduceEqDiff, e9, dn]
      refine CallOb.pureH (fun w' hp => hrdT _ w' hp) ?_
      rintro q N2 rfl
      refine ⟨?_⟩
      simp (config := { maxSteps := 4000000 }) only [↓sx0, ↓sx1, ↓sx2, ↓sx3, ↓sx4, ↓sx5, ↓sx6, sx0, sx1, sx2, sx3, sx4, sx5, sx6, tf83, ev3_hold, sxo, sxc, sxp, sxq, sxr, sxs, sxl, sxm, Int.reduceBEq, Int.reduceBNe, Int.reduceLT, Int.reduceLE, Int.reduceEq, Int.reduceGT, Int.reduceGE, Int.reduceToNat, ↓reduceIte, List.reduceReplicate, Nat.reduceAdd, Nat.reduceSub, Nat.reduceMul, Nat.reduceLT, Nat.reduceLeDiff, Nat.reduceBEq, Nat.reduceEqDiff, p1, e8, e9]
      exact ⟨(i + 1, V, ((g.t + i : Nat) : Int)), _, ⟨rfl, rfl, rfl⟩, HImp.app _ _ _, ⟨by simp only []; omega, hless hri hv1 hv2 hlt, rfl⟩, by simp only []; omega⟩
    · have p1 : (V < bn) = False := eq_false hlt
      refine ⟨?_⟩
      simp (config := { maxSteps := 4000000 }) only [↓sx0, ↓sx1, ↓sx2, ↓sx3, ↓sx4, ↓sx5, ↓sx6, sx0, sx1, sx2, sx3, sx4, sx5, sx6, tf83, ev3_hold, sxo, sxc, sxp, sxq, sxr, sxs, sxl, sxm, Int.reduceBEq, Int.reduceBNe, Int.reduceLT, Int.reduceLE, Int.reduceEq, Int.reduceGT, Int.reduceGE, Int.reduceToNat, ↓reduceIte, List.reduceReplicate, Nat.reduceAdd, Nat.reduceSub, Nat.reduceMul, Nat.reduceLT, Nat.reduceLeDiff, Nat.reduceBEq, Nat.reduceEqDiff, e7]
      refine amid (at_1 hrL slq_len hq4 rfl fun ad1 => ?_)
      simp (config := { maxSteps := 4000000 }) only [↓sx0, ↓sx1, ↓sx2, ↓sx3, ↓sx4, ↓sx5, ↓sx6, sx0, sx1, sx2, sx3, sx4, sx5, sx6, tf83, ev3_hold, sxo, sxc, sxp, sxq, sxr, sxs, sxl, sxm, Int.reduceBEq, Int.reduceBNe, Int.reduceLT, Int.reduceLE, Int.reduceEq, Int.reduceGT, Int.reduceGE, Int.reduceToNat, ↓reduceIte, List.reduceReplicate, Nat.reduceAdd, Nat.reduceSub, Nat.reduceMul, Nat.reduceLT, Nat.reduceLeDiff, Nat.reduceBEq, Nat.reduceEqDiff]
      refine at_1 (row_rdS (E := 22) hb4 slq_len (by rw [List.length_map, habl])) slq_len haqX (show slq (aq _ _) = [Value.slice (some aX) (g.ts + 2) (g.ts + 2)] from rfl) fun ad2 => ?_
      simp (config := { maxSteps := 4000000 }) only [↓sx0, ↓sx1, ↓sx2, ↓sx3, ↓sx4, ↓sx5, ↓sx6, sx0, sx1, sx2, sx3, sx4, sx5, sx6, tf83, ev3_hold, sxo, sxc, sxp, sxq, sxr, sxs, sxl, sxm, Int.reduceBEq, Int.reduceBNe, Int.reduceLT, Int.reduceLE, Int.reduceEq, Int.reduceGT, Int.reduceGE, Int.reduceToNat, ↓reduceIte, List.reduceReplicate, Nat.reduceAdd, Nat.reduceSub, Nat.reduceMul, Nat.reduceLT, Nat.reduceLeDiff, Nat.reduceBEq, Nat.reduceEqDiff, e1]
      refine at_1 (row_rdS (E := 3) tX i1_len hvl) i1_len hVu rfl fun ad3 => ?_
      simp (config := { maxSteps := 4000000 }) only [↓sx0, ↓sx1, ↓sx2, ↓sx3, ↓sx4, ↓sx5, ↓sx6, sx0, sx1, sx2, sx3, sx4, sx5, sx6, tf83, ev3_hold, sxo, sxc, sxp, sxq, sxr, sxs, sxl, sxm, Int.reduceBEq, Int.reduceBNe, Int.reduceLT, Int.reduceLE, Int.reduceEq, Int.reduceGT, Int.reduceGE, Int.reduceToNat, ↓reduceIte, List.reduceReplicate, Nat.reduceAdd, Nat.reduceSub, Nat.reduceMul, Nat.reduceLT, Nat.reduceLeDiff, Nat.reduceBEq, Nat.reduceEqDiff, e9, dn]
      refine CallOb.pureH (fun w' hp => hrdT _ w' hp) ?_
      rintro q N2 rfl
      refine ⟨?_⟩
      simp (config := { maxSteps := 4000000 }) only [↓sx0, ↓sx1, ↓sx2, ↓sx3, ↓sx4, ↓sx5, ↓sx6, sx0, sx1, sx2, sx3, sx4, sx5, sx6, tf83, ev3_hold, sxo, sxc, sxp, sxq, sxr, sxs, sxl, sxm, Int.reduceBEq, Int.reduceBNe, Int.reduceLT, Int.reduceLE, Int.reduceEq, Int.reduceGT, Int.reduceGE, Int.reduceToNat, ↓reduceIte, List.reduceReplicate, Nat.reduceAdd, Nat.reduceSub, Nat.reduceMul, Nat.reduceLT, Nat.reduceLeDiff, Nat.reduceBEq, Nat.reduceEqDiff, p1, e8]
      exact ⟨(i + 1, bn, en), _, ⟨rfl, rfl, rfl⟩, HImp.app _ _ _, ⟨by simp only []; omega, hkeep hlt, rfl⟩, by simp only []; omega⟩
def ReasonP (g : Vg) (rdy : Nat → Bool) (f : Int) (why bn en : Int) : Prop :=
  (g.Why rdy f why ∧ bn = 0 ∧ en = 0) ∨ (why = 0 ∧ rdy g.t = true ∧ 0 ≤ g.near ∧ ∃ m, g.Best rdy m bn ∧ bn + g.b.reserve ≤ f ∧ en = ((g.t + m : Nat) : Int))
theorem ReasonP.ans {g : Vg} {rdy : Nat → Bool} {f why bn en : Int} (h : ReasonP g rdy f why bn en) : g.Ans rdy f why := by
  rcases h with ⟨h, _⟩ | ⟨h1, h2, h3, m, h4, h5, _⟩
  · exact .inl h
  · exact .inr ⟨h1, h2, h3, m, bn, h4, h5⟩
def pl48_3 : Plan := (ones [3, 5] (.ld 0 (.ld 1 (.ld 2 (.ld 6 (ones [4, 7, 8, 9] .fin))))))
def pl48 : List (Nat × Plan) := [(3, pl48_3)]
theorem pl48_lk : (lkO 3 pl48 = some pl48_3) := rfl
theorem rreason_fn (w : World) (hw : Ways w) (v : Value) (g : Vg) (hg : g.Ok) (hc : ChOk w v g.c) (r : Rmp) (hr : rampB g.c r = true) (hkr : r.cell = g.k) (f : Int) (hf : 0 ≤ f ∧ f ≤ 5000) :
    SX.Fn Tryd.prog 48 [v, clv g.b, rmv r, I g.t, I f, .agg #[I g.tc, I g.ts]] w (fun _ => False) fun q N => ∃ why bn en, q = .tuple #[I why, I bn, I en] ∧ ReasonP g (rdyB g.c g.b r) f why bn en := by
  have hc0 := hc
  have hok := hg.ok
  have hrd := fun (H : List HO) w' (hp : Hp ⟨w, fun _ => False⟩ H w') => rready5_fn w' (hw.hp hp) v g.c (hc0.hp hp) hok g.b r hg.cls hr g.t hg.t
  have hre := fun (H : List HO) w' (hp : Hp ⟨w, fun _ => False⟩ H w') => rreach_fn w' (hw.hp hp) v g.c (hc0.hp hp) hok g.b r hg.cls hr g.t hg.t
  have hch := fun (h : rdyB g.c g.b r g.t = true) (H : List HO) w' (hp : Hp ⟨w, fun _ => False⟩ H w') => rcheapest_fn w' (hw.hp hp) v g hg (hc0.hp hp) r hr hkr h
  obtain ⟨sD, sT, sS, rfl, hsD, hsT, hsS⟩ := hc
  have h60 := hok.2.2.2.1
  have htc := hg.tc
  have hcb := (clsB_iff g.b).1 hg.cls
  have dn : ∀ (g : Nat) (xs : List Value), det0 g xs = none := fun _ _ => rfl
  have hrch : rdyB g.c g.b r g.t = true → (reachL g.c g.b r g.t)[g.tc]? = some g.near := fun h => by
    unfold reachL Vg.near
    rw [if_pos h, List.getElem?_map, List.getElem?_range htc, show r.cell.toNat = g.k by omega]
    rfl
  have hrel : (reachL g.c g.b r g.t).length = g.c.depth.length := by
    unfold reachL
    split
    · rw [List.length_map, List.length_range]
    · rw [List.length_replicate]
  obtain ⟨RL, hRL⟩ : ∃ RL, reachL g.c g.b r g.t = RL := ⟨_, rfl⟩
  rw [hRL] at hrel hrch
  simp only [hRL] at hre
  obtain ⟨rdy, hrdyE⟩ : ∃ rdy, rdyB g.c g.b r = rdy := ⟨_, rfl⟩
  rw [hrdyE] at hrch ⊢
  simp only [hrdyE] at hrd hch
  unfold clv rmv at hrd hre hch
  unfold clv rmv
  cases hrb : rdy g.t with
  | false =>
    rw [hrb] at hrd
    refine walk [] pl48 (det0_ok _ _) Tryd.func48 rfl Tryd.ntmps48 res48 (by kernel_rfl) no_facts ?_
    simp (config := { maxSteps := 4000000 }) only [↓sx0, ↓sx1, ↓sx2, ↓sx3, ↓sx4, ↓sx5, ↓sx6, sx0, sx1, sx2, sx3, sx4, sx5, sx6, tf48, ev3_hold, sxo, sxc, sxp, sxq, sxr, sxs, sxl, sxm, Int.reduceBEq, Int.reduceBNe, Int.reduceLT, Int.reduceLE, Int.reduceEq, Int.reduceGT, Int.reduceGE, Int.reduceToNat, ↓reduceIte, List.reduceReplicate, Nat.reduceAdd, Nat.reduceSub, Nat.reduceMul, Nat.reduceLT, Nat.reduceLeDiff, Nat.reduceBEq, Nat.reduceEqDiff, dn]
    refine CallOb.pureH (fun w' hp => hrd _ w' hp) ?_
    rintro q N rfl
    refine ⟨?_⟩
    simp (config := { maxSteps := 4000000 }) only [↓sx0, ↓sx1, ↓sx2, ↓sx3, ↓sx4, ↓sx5, ↓sx6, sx0, sx1, sx2, sx3, sx4, sx5, sx6, tf48, ev3_hold, sxo, sxc, sxp, sxq, sxr, sxs, sxl, sxm, Int.reduceBEq, Int.reduceBNe, Int.reduceLT, Int.reduceLE, Int.reduceEq, Int.reduceGT, Int.reduceGE, Int.reduceToNat, ↓reduceIte, List.reduceReplicate, Nat.reduceAdd, Nat.reduceSub, Nat.reduceMul, Nat.reduceLT, Nat.reduceLeDiff, Nat.reduceBEq, Nat.reduceEqDiff]
    exact ⟨1, 0, 0, rfl, .inl ⟨.inl ⟨rfl, hrb⟩, rfl, rfl⟩⟩
  | true =>
  rw [hrb] at hrd
  have hrc := hrch hrb
  have hch := hch hrb
  refine walk [] pl48 (det0_ok _ _) Tryd.func48 rfl Tryd.ntmps48 res48 (by kernel_rfl) no_facts ?_
  simp (config := { maxSteps := 4000000 }) only [↓sx0, ↓sx1, ↓sx2, ↓sx3, ↓sx4, ↓sx5, ↓sx6, sx0, sx1, sx2, sx3, sx4, sx5, sx6, tf48, ev3_hold, sxo, sxc, sxp, sxq, sxr, sxs, sxl, sxm, Int.reduceBEq, Int.reduceBNe, Int.reduceLT, Int.reduceLE, Int.reduceEq, Int.reduceGT, Int.reduceGE, Int.reduceToNat, ↓reduceIte, List.reduceReplicate, Nat.reduceAdd, Nat.reduceSub, Nat.reduceMul, Nat.reduceLT, Nat.reduceLeDiff, Nat.reduceBEq, Nat.reduceEqDiff, dn]
  refine CallOb.pureH (fun w' hp => hrd _ w' hp) ?_
  rintro q N rfl
  refine ⟨?_⟩
  simp (config := { maxSteps := 4000000 }) only [↓sx0, ↓sx1, ↓sx2, ↓sx3, ↓sx4, ↓sx5, ↓sx6, sx0, sx1, sx2, sx3, sx4, sx5, sx6, tf48, ev3_hold, sxo, sxc, sxp, sxq, sxr, sxs, sxl, sxm, Int.reduceBEq, Int.reduceBNe, Int.reduceLT, Int.reduceLE, Int.reduceEq, Int.reduceGT, Int.reduceGE, Int.reduceToNat, ↓reduceIte, List.reduceReplicate, Nat.reduceAdd, Nat.reduceSub, Nat.reduceMul, Nat.reduceLT, Nat.reduceLeDiff, Nat.reduceBEq, Nat.reduceEqDiff, dn, pl48_lk, pl48_3]
  refine CallOb.pureH (fun w' hp => hre _ w' hp) ?_
  rintro q N2 hG
  obtain ⟨aR, cR, rfl⟩ := hG.shape
  rw [hrel] at hG ⊢
  obtain ⟨nr, hnr⟩ : ∃ nr, g.near = nr := ⟨_, rfl⟩
  rw [hnr] at hrc
  by_cases hn0 : nr < 0
  · have p1 : (nr < 0) = True := eq_true hn0
    refine ⟨?_⟩
    simp (config := { maxSteps := 4000000 }) only [↓sx0, ↓sx1, ↓sx2, ↓sx3, ↓sx4, ↓sx5, ↓sx6, sx0, sx1, sx2, sx3, sx4, sx5, sx6, tf48, ev3_hold, sxo, sxc, sxp, sxq, sxr, sxs, sxl, sxm, Int.reduceBEq, Int.reduceBNe, Int.reduceLT, Int.reduceLE, Int.reduceEq, Int.reduceGT, Int.reduceGE, Int.reduceToNat, ↓reduceIte, List.reduceReplicate, Nat.reduceAdd, Nat.reduceSub, Nat.reduceMul, Nat.reduceLT, Nat.reduceLeDiff, Nat.reduceBEq, Nat.reduceEqDiff, pl48_lk, pl48_3]
    refine at_1 (hG.rdv i1_len (by simp +contextual)) i1_len hrc rfl fun ad2 => ?_
    simp (config := { maxSteps := 4000000 }) only [↓sx0, ↓sx1, ↓sx2, ↓sx3, ↓sx4, ↓sx5, ↓sx6, sx0, sx1, sx2, sx3, sx4, sx5, sx6, tf48, ev3_hold, sxo, sxc, sxp, sxq, sxr, sxs, sxl, sxm, Int.reduceBEq, Int.reduceBNe, Int.reduceLT, Int.reduceLE, Int.reduceEq, Int.reduceGT, Int.reduceGE, Int.reduceToNat, ↓reduceIte, List.reduceReplicate, Nat.reduceAdd, Nat.reduceSub, Nat.reduceMul, Nat.reduceLT, Nat.reduceLeDiff, Nat.reduceBEq, Nat.reduceEqDiff, p1]
    exact ⟨2, 0, 0, rfl, .inl ⟨.inr ⟨hrb, .inl ⟨rfl, by rw [hnr]; exact hn0⟩⟩, rfl, rfl⟩⟩
  have p1 : (nr < 0) = False := eq_false hn0
  refine ⟨?_⟩
  simp (config := { maxSteps := 4000000 }) only [↓sx0, ↓sx1, ↓sx2, ↓sx3, ↓sx4, ↓sx5, ↓sx6, sx0, sx1, sx2, sx3, sx4, sx5, sx6, tf48, ev3_hold, sxo, sxc, sxp, sxq, sxr, sxs, sxl, sxm, Int.reduceBEq, Int.reduceBNe, Int.reduceLT, Int.reduceLE, Int.reduceEq, Int.reduceGT, Int.reduceGE, Int.reduceToNat, ↓reduceIte, List.reduceReplicate, Nat.reduceAdd, Nat.reduceSub, Nat.reduceMul, Nat.reduceLT, Nat.reduceLeDiff, Nat.reduceBEq, Nat.reduceEqDiff, pl48_lk, pl48_3]
  refine at_1 (hG.rdv i1_len (by simp +contextual)) i1_len hrc rfl fun ad2 => ?_
  simp (config := { maxSteps := 4000000 }) only [↓sx0, ↓sx1, ↓sx2, ↓sx3, ↓sx4, ↓sx5, ↓sx6, sx0, sx1, sx2, sx3, sx4, sx5, sx6, tf48, ev3_hold, sxo, sxc, sxp, sxq, sxr, sxs, sxl, sxm, Int.reduceBEq, Int.reduceBNe, Int.reduceLT, Int.reduceLE, Int.reduceEq, Int.reduceGT, Int.reduceGE, Int.reduceToNat, ↓reduceIte, List.reduceReplicate, Nat.reduceAdd, Nat.reduceSub, Nat.reduceMul, Nat.reduceLT, Nat.reduceLeDiff, Nat.reduceBEq, Nat.reduceEqDiff, p1, dn]
  refine CallOb.pureH (fun w' hp => hch _ w' hp) ?_
  rintro q3 N3 ⟨bn, en, rfl, hCP⟩
  rcases hCP with ⟨hb, rfl, hno⟩ | ⟨m, hbest, rfl⟩
  · have p2 : (bn ≥ 1099511627776) = True := eq_true (by unfold nv40 at hb; omega)
    refine ⟨?_⟩
    simp (config := { maxSteps := 4000000 }) only [↓sx0, ↓sx1, ↓sx2, ↓sx3, ↓sx4, ↓sx5, ↓sx6, sx0, sx1, sx2, sx3, sx4, sx5, sx6, tf48, ev3_hold, sxo, sxc, sxp, sxq, sxr, sxs, sxl, sxm, Int.reduceBEq, Int.reduceBNe, Int.reduceLT, Int.reduceLE, Int.reduceEq, Int.reduceGT, Int.reduceGE, Int.reduceToNat, ↓reduceIte, List.reduceReplicate, Nat.reduceAdd, Nat.reduceSub, Nat.reduceMul, Nat.reduceLT, Nat.reduceLeDiff, Nat.reduceBEq, Nat.reduceEqDiff, p2]
    exact ⟨3, 0, 0, rfl, .inl ⟨.inr ⟨hrb, .inr ⟨by omega, .inl ⟨rfl, hno⟩⟩⟩, rfl, rfl⟩⟩
  have hBb := g.R_bd hg hbest.r
  have hm60 := hbest.lt
  have p2 : (bn ≥ 1099511627776) = False := eq_false (by omega)
  have e1 : wr (bn + g.b.reserve) = bn + g.b.reserve := wrap_id (by omega)
  by_cases hfu : bn + g.b.reserve > f
  · have p3 : (bn + g.b.reserve > f) = True := eq_true hfu
    refine ⟨?_⟩
    simp (config := { maxSteps := 4000000 }) only [↓sx0, ↓sx1, ↓sx2, ↓sx3, ↓sx4, ↓sx5, ↓sx6, sx0, sx1, sx2, sx3, sx4, sx5, sx6, tf48, ev3_hold, sxo, sxc, sxp, sxq, sxr, sxs, sxl, sxm, Int.reduceBEq, Int.reduceBNe, Int.reduceLT, Int.reduceLE, Int.reduceEq, Int.reduceGT, Int.reduceGE, Int.reduceToNat, ↓reduceIte, List.reduceReplicate, Nat.reduceAdd, Nat.reduceSub, Nat.reduceMul, Nat.reduceLT, Nat.reduceLeDiff, Nat.reduceBEq, Nat.reduceEqDiff, p2, e1, p3]
    exact ⟨4, 0, 0, rfl, .inl ⟨.inr ⟨hrb, .inr ⟨by omega, .inr ⟨rfl, m, bn, hbest, hfu⟩⟩⟩, rfl, rfl⟩⟩
  · have p3 : (bn + g.b.reserve > f) = False := eq_false hfu
    refine ⟨?_⟩
    simp (config := { maxSteps := 4000000 }) only [↓sx0, ↓sx1, ↓sx2, ↓sx3, ↓sx4, ↓sx5, ↓sx6, sx0, sx1, sx2, sx3, sx4, sx5, sx6, tf48, ev3_hold, sxo, sxc, sxp, sxq, sxr, sxs, sxl, sxm, Int.reduceBEq, Int.reduceBNe, Int.reduceLT, Int.reduceLE, Int.reduceEq, Int.reduceGT, Int.reduceGE, Int.reduceToNat, ↓reduceIte, List.reduceReplicate, Nat.reduceAdd, Nat.reduceSub, Nat.reduceMul, Nat.reduceLT, Nat.reduceLeDiff, Nat.reduceBEq, Nat.reduceEqDiff, p2, e1, p3]
    exact ⟨0, bn, _, rfl, .inr ⟨rfl, hrb, by omega, m, hbest, by omega, rfl⟩⟩
end Go.Proofs.YtcnlbnccbnapbaaDoor
