/- Parts of a proof: the symbolic walk and what it shows of single functions. -/
import Derived.Test.YtcnlbnccbnapbaaDoorP4
set_option linter.all false
namespace Go.Proofs.YtcnlbnccbnapbaaDoor
open Go.RowKit Go.SX
set_option maxRecDepth 10000
set_option maxHeartbeats 0
set_option linter.unusedSimpArgs false
set_option linter.unusedVariables false
def SailP (g : Vg) (q : Value) (N : List HO) : Prop := ∃ ad cp qs tabs, q = .slice (some ad) tabs.length cp ∧ HO.row (.slice (some ad) tabs.length cp) 164 1 (cat slq qs) ∈ N ∧ LogM g N qs tabs ∧ g.Tabs tabs ∧ tabs.length = g.c.tide.length - g.t
def pl82_3 : Plan := (ones [0, 1, 2, 3, 4, 5, 9, 10, 11, 12, 6, 7, 8, 13, 14, 15] .fin)
def pl82 : List (Nat × Plan) := [(3, pl82_3)]
theorem pl82_lk : (lkO 3 pl82 = some pl82_3) ∧ (lkO 19 pl82 = none) ∧ (lkO 21 pl82 = none) := ⟨rfl, rfl, rfl⟩
theorem sail5_fn (w : World) (bs : Nat) (g : Vg) (hg : g.Ok) (r : Rmp) (hkr : r.cell = g.k) (hst : StaOk w bs g.c g.b r.cell (rdyL g.c g.b r) (canL g.c g.b) (nearL g.c)) :
    SX.Fn Tryd.prog 82 [.pointer (some ⟨bs, 0, none⟩), .agg #[I g.tc, I g.ts], I g.t] w (fun _ => False) (SailP g) := by
  obtain ⟨sD, sT, sS, vr, vc, vn, hcs, hch, hrd, hcn, hnr⟩ := hst
  obtain ⟨sD', sT', sS', he, hsD, hsT, hsS⟩ := hch
  injection he with he
  injection he with he
  simp only [List.cons.injEq, true_and, and_true] at he
  obtain ⟨rfl, rfl, rfl⟩ := he
  obtain ⟨aD, nD, cD, rfl⟩ := hsD.shape
  obtain ⟨aT, nT, cT, rfl⟩ := hsT.shape
  obtain ⟨cvs, hcvl, hcvs, hcv⟩ := hcn.at
  obtain ⟨nvs, hnvl, hnvs, hnv⟩ := hnr.at
  obtain ⟨ac, nc, cc, rfl⟩ := hcvs.shape
  obtain ⟨an, nn, cn, rfl⟩ := hnvs.shape
  have hnD := hsD.le i1_len (by omega)
  have hnT := hsT.le spc_len (by omega)
  have hnc := hcvs.le slq_len (by omega)
  have hnn := hnvs.le slq_len (by omega)
  have hcl : (canL g.c g.b).length = g.c.tide.length := by unfold canL; rw [List.length_map, List.length_range]
  have hnl : (nearL g.c).length = g.c.depth.length := by unfold nearL; rw [List.length_map, List.length_range]
  rw [hcvl, hcl] at hnc
  rw [hnvl, hnl] at hnn
  subst hnD hnT hnc hnn
  have hrc := hcvs.rd0
  have hrn := hnvs.rd0
  have h60 := hg.ok.2.2.2.1.2
  have hts := hg.ts
  have hk0 := hg.k
  have ht0 := hg.t
  have h144 : g.c.depth.length < 200 := by have := hg.ok.dims; obtain ⟨_, _, h1, h2, h3⟩ := this; rw [h3]; exact Nat.lt_of_le_of_lt (Nat.mul_le_mul h1.2 h2.2) (by decide)
  have m2 := hcs 2 _ rfl
  have m3 := hcs 3 _ rfl
  have m7 := hcs 7 _ rfl
  have m8 := hcs 8 _ rfl
  have m12 := hcs 12 _ rfl
  have m14 := hcs 14 _ rfl
  have m15 := hcs 15 _ rfl
  rw [hkr] at m12
  have dn : (∀ xs, detT 106 xs = none) := fun _ => rfl
  have d0 : detT 108 [.agg #[I g.tc, I g.ts], I g.k, I 0] = some (I (g.st g.k 0 : Nat)) := detT_eq g (y := g.k) (s := 0) (by omega)
  have hst0 := g.st_le (y := g.k) (s := 0) (by omega)
  obtain ⟨S0, hS0⟩ : ∃ S0, g.st g.k 0 = S0 := ⟨_, rfl⟩
  rw [hS0] at d0 hst0
  refine walk [3, 4, 15] pl82 (detT_ok _ _) Tryd.func82 rfl Tryd.ntmps82 res82 (by kernel_rfl) no_facts ?_
  simp (config := { maxSteps := 4000000 }) only [↓sx0, ↓sx1, ↓sx2, ↓sx3, ↓sx4, ↓sx5, ↓sx6, sx0, sx1, sx2, sx3, sx4, sx5, sx6, tf82, ev3_hold, sxo, sxc, sxp, sxq, sxr, sxs, sxl, sxm, Int.reduceBEq, Int.reduceBNe, Int.reduceLT, Int.reduceLE, Int.reduceEq, Int.reduceGT, Int.reduceGE, Int.reduceToNat, ↓reduceIte, List.reduceReplicate, Nat.reduceAdd, Nat.reduceSub, Nat.reduceMul, Nat.reduceLT, Nat.reduceLeDiff, Nat.reduceBEq, Nat.reduceEqDiff, dn]
  intro bx bk
  refine CallOb.pureH (fun w' hp => rows5_fn w' bk bx bs g hg aD cD (cells_old (T := 31) (cs := [I g.tc, I g.ts]) List.mem_cons_self hp 1 _ rfl) (cells_old (T := 84) (cs := [.pointer (some ⟨bs, 0, none⟩)]) (by simp) hp 0 _ rfl) ((World.cell?_of_block (w := w) (hp.ext.block bs (World.block_lt_of_cell? w _ m2) id)).trans m2)) ?_
  rintro q N ⟨b1, aa, rfl, hal, rfl⟩
  have hla : aa.length = g.void.length := by rw [hal, void_len]
  have hFA := FR_at (n := g.c.depth.length) hla (s := S0) (by omega)
  refine ⟨?_⟩
  simp (config := { maxSteps := 4000000 }) only [↓sx0, ↓sx1, ↓sx2, ↓sx3, ↓sx4, ↓sx5, ↓sx6, sx0, sx1, sx2, sx3, sx4, sx5, sx6, tf82, ev3_hold, sxo, sxc, sxp, sxq, sxr, sxs, sxl, sxm, Int.reduceBEq, Int.reduceBNe, Int.reduceLT, Int.reduceLE, Int.reduceEq, Int.reduceGT, Int.reduceGE, Int.reduceToNat, ↓reduceIte, List.reduceReplicate, Nat.reduceAdd, Nat.reduceSub, Nat.reduceMul, Nat.reduceLT, Nat.reduceLeDiff, Nat.reduceBEq, Nat.reduceEqDiff, pl82_lk, pl82_3]
  refine ld_cells (T := 31) (cs := [I g.tc, I g.ts]) [I g.tc, I g.ts] (by simp) rfl rfl ?_
  simp (config := { maxSteps := 4000000 }) only [↓sx0, ↓sx1, ↓sx2, ↓sx3, ↓sx4, ↓sx5, ↓sx6, sx0, sx1, sx2, sx3, sx4, sx5, sx6, tf82, ev3_hold, sxo, sxc, sxp, sxq, sxr, sxs, sxl, sxm, Int.reduceBEq, Int.reduceBNe, Int.reduceLT, Int.reduceLE, Int.reduceEq, Int.reduceGT, Int.reduceGE, Int.reduceToNat, ↓reduceIte, List.reduceReplicate, Nat.reduceAdd, Nat.reduceSub, Nat.reduceMul, Nat.reduceLT, Nat.reduceLeDiff, Nat.reduceBEq, Nat.reduceEqDiff, pl82_lk, pl82_3]
  refine ld_cell (T := 84) (cs := [.pointer (some ⟨bs, 0, none⟩)]) (by simp) rfl ?_
  simp (config := { maxSteps := 4000000 }) only [↓sx0, ↓sx1, ↓sx2, ↓sx3, ↓sx4, ↓sx5, ↓sx6, sx0, sx1, sx2, sx3, sx4, sx5, sx6, tf82, ev3_hold, sxo, sxc, sxp, sxq, sxr, sxs, sxl, sxm, Int.reduceBEq, Int.reduceBNe, Int.reduceLT, Int.reduceLE, Int.reduceEq, Int.reduceGT, Int.reduceGE, Int.reduceToNat, ↓reduceIte, List.reduceReplicate, Nat.reduceAdd, Nat.reduceSub, Nat.reduceMul, Nat.reduceLT, Nat.reduceLeDiff, Nat.reduceBEq, Nat.reduceEqDiff, pl82_lk, pl82_3]
  refine ld_olda (by simp [add_block]) m12 id ?_
  simp (config := { maxSteps := 4000000 }) only [↓sx0, ↓sx1, ↓sx2, ↓sx3, ↓sx4, ↓sx5, ↓sx6, sx0, sx1, sx2, sx3, sx4, sx5, sx6, tf82, ev3_hold, sxo, sxc, sxp, sxq, sxr, sxs, sxl, sxm, Int.reduceBEq, Int.reduceBNe, Int.reduceLT, Int.reduceLE, Int.reduceEq, Int.reduceGT, Int.reduceGE, Int.reduceToNat, ↓reduceIte, List.reduceReplicate, Nat.reduceAdd, Nat.reduceSub, Nat.reduceMul, Nat.reduceLT, Nat.reduceLeDiff, Nat.reduceBEq, Nat.reduceEqDiff, pl82_lk, pl82_3]
  refine ld_cell (T := 84) (cs := [.pointer (some ⟨bs, 0, none⟩)]) (by simp) rfl ?_
  simp (config := { maxSteps := 4000000 }) only [↓sx0, ↓sx1, ↓sx2, ↓sx3, ↓sx4, ↓sx5, ↓sx6, sx0, sx1, sx2, sx3, sx4, sx5, sx6, tf82, ev3_hold, sxo, sxc, sxp, sxq, sxr, sxs, sxl, sxm, Int.reduceBEq, Int.reduceBNe, Int.reduceLT, Int.reduceLE, Int.reduceEq, Int.reduceGT, Int.reduceGE, Int.reduceToNat, ↓reduceIte, List.reduceReplicate, Nat.reduceAdd, Nat.reduceSub, Nat.reduceMul, Nat.reduceLT, Nat.reduceLeDiff, Nat.reduceBEq, Nat.reduceEqDiff, pl82_lk, pl82_3]
  refine ld_olda (by simp [add_block]) m12 id ?_
  simp (config := { maxSteps := 4000000 }) only [↓sx0, ↓sx1, ↓sx2, ↓sx3, ↓sx4, ↓sx5, ↓sx6, sx0, sx1, sx2, sx3, sx4, sx5, sx6, tf82, ev3_hold, sxo, sxc, sxp, sxq, sxr, sxs, sxl, sxm, Int.reduceBEq, Int.reduceBNe, Int.reduceLT, Int.reduceLE, Int.reduceEq, Int.reduceGT, Int.reduceGE, Int.reduceToNat, ↓reduceIte, List.reduceReplicate, Nat.reduceAdd, Nat.reduceSub, Nat.reduceMul, Nat.reduceLT, Nat.reduceLeDiff, Nat.reduceBEq, Nat.reduceEqDiff, d0, pl82_lk, pl82_3]
  have hau := List.getElem?_eq_getElem (show S0 < aa.length by omega)
  have haq : (aa.map (aq g.c.depth.length))[S0]? = some (aq g.c.depth.length (aa[S0]'(by omega))) := by rw [List.getElem?_map, hau]; rfl
  refine at_1 (row_rdS (E := 163) List.mem_cons_self slq_len (by rw [List.length_map, hal])) slq_len haq (show slq (aq _ _) = [Value.slice (some (aa[S0]'(by omega))) g.c.depth.length g.c.depth.length] from rfl) fun ad1 => ?_
  simp (config := { maxSteps := 4000000 }) only [↓sx0, ↓sx1, ↓sx2, ↓sx3, ↓sx4, ↓sx5, ↓sx6, sx0, sx1, sx2, sx3, sx4, sx5, sx6, tf82, ev3_hold, sxo, sxc, sxp, sxq, sxr, sxs, sxl, sxm, Int.reduceBEq, Int.reduceBNe, Int.reduceLT, Int.reduceLE, Int.reduceEq, Int.reduceGT, Int.reduceGE, Int.reduceToNat, ↓reduceIte, List.reduceReplicate, Nat.reduceAdd, Nat.reduceSub, Nat.reduceMul, Nat.reduceLT, Nat.reduceLeDiff, Nat.reduceBEq, Nat.reduceEqDiff, pl82_lk, pl82_3]
  refine ⟨by omega, by omega, _, rfl, ?_⟩
  have hv1 : g.void.getD S0 [] = g.void.getD S0 [] := rfl
  have hvl := g.void_shape.2 S0 (by omega)
  have hvu : (g.void.getD S0 [])[g.k]? = some (en g.void S0 g.k) := en_get g.void_shape (by omega) hk0
  rw [g.void_en (by omega) hk0] at hvu
  refine wr_f1 (A := HO.row (.slice (some ⟨b1, 0, none⟩) (g.ts + 2) (g.ts + 2)) 163 1 (cat slq (aa.map (aq g.c.depth.length))) :: FR g.c.depth.length (aa.take S0) (g.void.take S0)) (B := FR g.c.depth.length (aa.drop (S0 + 1)) (g.void.drop (S0 + 1)) ++ [HO.cells bk 31 [I g.tc, I g.ts], HO.cells bx 84 [.pointer (some ⟨bs, 0, none⟩)]]) (f := frc) (l := g.void.getD S0 []) (u := (nvr, 0, 0)) ((0, 0, 0) : Frm) (by rw [hFA, List.append_assoc]; rfl) frc_len hvl hvu rfl (by decide) ?_
  have hFS := FR_set (n := g.c.depth.length) hla (s := S0) (by omega) ((g.void.getD S0 []).set g.k (0, 0, 0))
  have hT0 : g.Tab 0 (setE g.void S0 g.k (0, 0, 0)) := by rw [← hS0]; exact Vg.Tab.first hg
  obtain ⟨R0, hR0⟩ : ∃ R0, setE g.void S0 g.k (0, 0, 0) = R0 := ⟨_, rfl⟩
  have hR0' : g.void.set S0 ((g.void.getD S0 []).set g.k (0, 0, 0)) = R0 := hR0
  rw [hR0'] at hFS
  rw [hR0] at hT0
  have e1 : wr ((g.t : Int) + 1) = ((g.t + 1 + 0 : Nat) : Int) := (wrap_id (by omega)).trans (by omega)
  simp (config := { maxSteps := 4000000 }) only [↓sx0, ↓sx1, ↓sx2, ↓sx3, ↓sx4, ↓sx5, ↓sx6, sx0, sx1, sx2, sx3, sx4, sx5, sx6, tf82, ev3_hold, sxo, sxc, sxp, sxq, sxr, sxs, sxl, sxm, Int.reduceBEq, Int.reduceBNe, Int.reduceLT, Int.reduceLE, Int.reduceEq, Int.reduceGT, Int.reduceGE, Int.reduceToNat, ↓reduceIte, List.reduceReplicate, Nat.reduceAdd, Nat.reduceSub, Nat.reduceMul, Nat.reduceLT, Nat.reduceLeDiff, Nat.reduceBEq, Nat.reduceEqDiff, pl82_lk, pl82_3, e1]
  intro b2
  refine loop_constH (HO.row (.slice (some ⟨b2, 0, none⟩) (0 + 1) 1) 164 1 (cat slq ([] ++ [(some ⟨b1, 0, none⟩, g.ts + 2, g.ts + 2)])) :: HO.cells bk 31 [I g.tc, I g.ts] :: HO.cells bx 84 [.pointer (some ⟨bs, 0, none⟩)] :: (HO.row (.slice (some ⟨b1, 0, none⟩) (g.ts + 2) (g.ts + 2)) 163 1 (cat slq (aa.map (aq g.c.depth.length))) :: FR g.c.depth.length aa R0)) ?_ [(9, 15), (17, 19), (42, 146)] (fun q : Nat × Addr × Nat => [(9, .slice (some q.2.1) (q.1 + 1) q.2.2), (10, I ((g.t + 1 + q.1 : Nat) : Int))])
    (fun q H1 => g.t + 1 + q.1 ≤ g.c.tide.length ∧ ∃ qs tabs DF, H1 = HO.row (.slice (some q.2.1) (q.1 + 1) q.2.2) 164 1 (cat slq qs) :: HO.cells bk 31 [I g.tc, I g.ts] :: HO.cells bx 84 [.pointer (some ⟨bs, 0, none⟩)] :: DF ∧ tabs.length = q.1 + 1 ∧ LogM g DF qs tabs ∧ g.Tabs tabs) (fun q => g.c.tide.length - q.1) (0, ⟨b2, 0, none⟩, 1) ?_ ⟨by simp only []; omega, [] ++ [(some ⟨b1, 0, none⟩, g.ts + 2, g.ts + 2)], [] ++ [R0], _, rfl, rfl, LogM.snoc ⟨rfl, fun i R h => by simp at h⟩ hal List.mem_cons_self (fun h hh => List.mem_cons_of_mem _ hh), Vg.Tabs.snoc ⟨fun i R h => by simp at h, fun i R R' h => by simp at h⟩ hT0 (fun R h => by simp at h)⟩ ?_
  · rw [hFS]
    have hcat : ∀ (a m x y : HO) (l1 l2 : List HO), a :: (l1 ++ m :: (l2 ++ [x, y])) = (a :: (l1 ++ m :: l2)) ++ [x, y] := fun a m x y l1 l2 => by simp
    rw [hcat]
    exact HImp.perm (List.Perm.cons _ (List.perm_append_comm (l₂ := [HO.cells bk 31 [I g.tc, I g.ts], HO.cells bx 84 [.pointer (some ⟨bs, 0, none⟩)]])))
  · simp (config := { maxSteps := 4000000 }) only [↓sx0, ↓sx1, ↓sx2, ↓sx3, ↓sx4, ↓sx5, ↓sx6, sx0, sx1, sx2, sx3, sx4, sx5, sx6, tf82, ev3_hold, sxo, sxc, sxp, sxq, sxr, sxs, sxl, sxm, Int.reduceBEq, Int.reduceBNe, Int.reduceLT, Int.reduceLE, Int.reduceEq, Int.reduceGT, Int.reduceGE, Int.reduceToNat, ↓reduceIte, List.reduceReplicate, Nat.reduceAdd, Nat.reduceSub, Nat.reduceMul, Nat.reduceLT, Nat.reduceLeDiff, Nat.reduceBEq, Nat.reduceEqDiff]
    try simp
  rintro ⟨i, ad, cp⟩ H1 g1 hinv
  simp only [] at hinv
  obtain ⟨hi, qs, tabs, DF, rfl, htl, hLM, hTb⟩ := hinv
  by_cases hin : g.t + 1 + i = g.c.tide.length
  · have e7 : (((g.t + 1 + i : Nat) : Int) < (g.c.tide.length : Int)) = False := eq_false (by omega)
    refine ⟨?_⟩
    simp (config := { maxSteps := 4000000 }) only [↓sx0, ↓sx1, ↓sx2, ↓sx3, ↓sx4, ↓sx5, ↓sx6, sx0, sx1, sx2, sx3, sx4, sx5, sx6, tf82, ev3_hold, sxo, sxc, sxp, sxq, sxr, sxs, sxl, sxm, Int.reduceBEq, Int.reduceBNe, Int.reduceLT, Int.reduceLE, Int.reduceEq, Int.reduceGT, Int.reduceGE, Int.reduceToNat, ↓reduceIte, List.reduceReplicate, Nat.reduceAdd, Nat.reduceSub, Nat.reduceMul, Nat.reduceLT, Nat.reduceLeDiff, Nat.reduceBEq, Nat.reduceEqDiff]
    refine ld_cell (T := 84) (cs := [.pointer (some ⟨bs, 0, none⟩)]) (by simp) rfl ?_
    simp (config := { maxSteps := 4000000 }) only [↓sx0, ↓sx1, ↓sx2, ↓sx3, ↓sx4, ↓sx5, ↓sx6, sx0, sx1, sx2, sx3, sx4, sx5, sx6, tf82, ev3_hold, sxo, sxc, sxp, sxq, sxr, sxs, sxl, sxm, Int.reduceBEq, Int.reduceBNe, Int.reduceLT, Int.reduceLE, Int.reduceEq, Int.reduceGT, Int.reduceGE, Int.reduceToNat, ↓reduceIte, List.reduceReplicate, Nat.reduceAdd, Nat.reduceSub, Nat.reduceMul, Nat.reduceLT, Nat.reduceLeDiff, Nat.reduceBEq, Nat.reduceEqDiff]
    refine ld_olda (by simp [add_block]) m3 id ?_
    simp (config := { maxSteps := 4000000 }) only [↓sx0, ↓sx1, ↓sx2, ↓sx3, ↓sx4, ↓sx5, ↓sx6, sx0, sx1, sx2, sx3, sx4, sx5, sx6, tf82, ev3_hold, sxo, sxc, sxp, sxq, sxr, sxs, sxl, sxm, Int.reduceBEq, Int.reduceBNe, Int.reduceLT, Int.reduceLE, Int.reduceEq, Int.reduceGT, Int.reduceGE, Int.reduceToNat, ↓reduceIte, List.reduceReplicate, Nat.reduceAdd, Nat.reduceSub, Nat.reduceMul, Nat.reduceLT, Nat.reduceLeDiff, Nat.reduceBEq, Nat.reduceEqDiff, e7]
    exact ⟨ad, cp, qs, tabs, by rw [htl], by rw [htl]; exact List.mem_cons_self, hLM.mono fun h hh => by simp [hh], hTb, by omega⟩
  have e7 : (((g.t + 1 + i : Nat) : Int) < (g.c.tide.length : Int)) = True := eq_true (by omega)
  have e8 : wr (((g.t + 1 + i : Nat) : Int) + 1) = ((g.t + 1 + (i + 1) : Nat) : Int) := (wrap_id (by omega)).trans (by omega)
  have e9 : wr (((i + 1 : Nat) : Int) - 1) = (i : Int) := (wrap_id (by omega)).trans (by omega)
  have hRl := List.getElem?_eq_getElem (show i < tabs.length by omega)
  obtain ⟨R, hR⟩ : ∃ R, tabs[i]'(by omega) = R := ⟨_, rfl⟩
  rw [hR] at hRl
  have hTi := hTb.1 i R hRl
  obtain ⟨b4, ab, hq4, habl, hb4, hFRm⟩ := hLM.2 i R hRl
  have hql := hLM.1
  obtain ⟨T0, hT0e⟩ : ∃ T0, HO.row (.slice (some ad) (i + 1) cp) 164 1 (cat slq qs) :: HO.cells bk 31 [I g.tc, I g.ts] :: HO.cells bx 84 [.pointer (some ⟨bs, 0, none⟩)] :: DF = T0 := ⟨_, rfl⟩
  have tL : HO.row (.slice (some ad) (i + 1) cp) 164 1 (cat slq qs) ∈ T0 := by rw [← hT0e]; exact List.mem_cons_self
  have tK : HO.cells bk 31 [I g.tc, I g.ts] ∈ T0 := by rw [← hT0e]; exact List.mem_cons_of_mem _ List.mem_cons_self
  have tX : HO.cells bx 84 [.pointer (some ⟨bs, 0, none⟩)] ∈ T0 := by rw [← hT0e]; exact List.mem_cons_of_mem _ (List.mem_cons_of_mem _ List.mem_cons_self)
  have tB : HO.row (.slice (some ⟨b4, 0, none⟩) (g.ts + 2) (g.ts + 2)) 163 1 (cat slq (ab.map (aq g.c.depth.length))) ∈ T0 := by rw [← hT0e]; exact List.mem_cons_of_mem _ (List.mem_cons_of_mem _ (List.mem_cons_of_mem _ hb4))
  have tF : ∀ h ∈ FR g.c.depth.length ab R, h ∈ T0 := fun h hh => by rw [← hT0e]; exact List.mem_cons_of_mem _ (List.mem_cons_of_mem _ (List.mem_cons_of_mem _ (hFRm h hh)))
  rw [hT0e]
  refine ⟨?_⟩
  simp (config := { maxSteps := 4000000 }) only [↓sx0, ↓sx1, ↓sx2, ↓sx3, ↓sx4, ↓sx5, ↓sx6, sx0, sx1, sx2, sx3, sx4, sx5, sx6, tf82, ev3_hold, sxo, sxc, sxp, sxq, sxr, sxs, sxl, sxm, Int.reduceBEq, Int.reduceBNe, Int.reduceLT, Int.reduceLE, Int.reduceEq, Int.reduceGT, Int.reduceGE, Int.reduceToNat, ↓reduceIte, List.reduceReplicate, Nat.reduceAdd, Nat.reduceSub, Nat.reduceMul, Nat.reduceLT, Nat.reduceLeDiff, Nat.reduceBEq, Nat.reduceEqDiff]
  refine ld_cell (T := 84) (cs := [.pointer (some ⟨bs, 0, none⟩)]) tX rfl ?_
  simp (config := { maxSteps := 4000000 }) only [↓sx0, ↓sx1, ↓sx2, ↓sx3, ↓sx4, ↓sx5, ↓sx6, sx0, sx1, sx2, sx3, sx4, sx5, sx6, tf82, ev3_hold, sxo, sxc, sxp, sxq, sxr, sxs, sxl, sxm, Int.reduceBEq, Int.reduceBNe, Int.reduceLT, Int.reduceLE, Int.reduceEq, Int.reduceGT, Int.reduceGE, Int.reduceToNat, ↓reduceIte, List.reduceReplicate, Nat.reduceAdd, Nat.reduceSub, Nat.reduceMul, Nat.reduceLT, Nat.reduceLeDiff, Nat.reduceBEq, Nat.reduceEqDiff]
  refine ld_olda (by simp [add_block]) m3 id ?_
  simp (config := { maxSteps := 4000000 }) only [↓sx0, ↓sx1, ↓sx2, ↓sx3, ↓sx4, ↓sx5, ↓sx6, sx0, sx1, sx2, sx3, sx4, sx5, sx6, tf82, ev3_hold, sxo, sxc, sxp, sxq, sxr, sxs, sxl, sxm, Int.reduceBEq, Int.reduceBNe, Int.reduceLT, Int.reduceLE, Int.reduceEq, Int.reduceGT, Int.reduceGE, Int.reduceToNat, ↓reduceIte, List.reduceReplicate, Nat.reduceAdd, Nat.reduceSub, Nat.reduceMul, Nat.reduceLT, Nat.reduceLeDiff, Nat.reduceBEq, Nat.reduceEqDiff, e7, dn]
  refine CallOb.pureH (fun w' hp => rows5_fn w' bk bx bs g hg aD cD (cells_old (T := 31) (cs := [I g.tc, I g.ts]) tK hp 1 _ rfl) (cells_old (T := 84) (cs := [.pointer (some ⟨bs, 0, none⟩)]) tX hp 0 _ rfl) ((World.cell?_of_block (w := w) (hp.ext.block bs (World.block_lt_of_cell? w _ m2) id)).trans m2)) ?_
  rintro q N ⟨b3, an3, rfl, han3, rfl⟩
  refine ⟨?_⟩
  simp (config := { maxSteps := 4000000 }) only [↓sx0, ↓sx1, ↓sx2, ↓sx3, ↓sx4, ↓sx5, ↓sx6, sx0, sx1, sx2, sx3, sx4, sx5, sx6, tf82, ev3_hold, sxo, sxc, sxp, sxq, sxr, sxs, sxl, sxm, Int.reduceBEq, Int.reduceBNe, Int.reduceLT, Int.reduceLE, Int.reduceEq, Int.reduceGT, Int.reduceGE, Int.reduceToNat, ↓reduceIte, List.reduceReplicate, Nat.reduceAdd, Nat.reduceSub, Nat.reduceMul, Nat.reduceLT, Nat.reduceLeDiff, Nat.reduceBEq, Nat.reduceEqDiff, e9]
  refine at_1 (row_rdS (E := 164) (List.mem_cons_of_mem _ (List.mem_append_right _ tL)) slq_len (by omega)) slq_len hq4 rfl fun ad2 => ?_
  simp (config := { maxSteps := 4000000 }) only [↓sx0, ↓sx1, ↓sx2, ↓sx3, ↓sx4, ↓sx5, ↓sx6, sx0, sx1, sx2, sx3, sx4, sx5, sx6, tf82, ev3_hold, sxo, sxc, sxp, sxq, sxr, sxs, sxl, sxm, Int.reduceBEq, Int.reduceBNe, Int.reduceLT, Int.reduceLE, Int.reduceEq, Int.reduceGT, Int.reduceGE, Int.reduceToNat, ↓reduceIte, List.reduceReplicate, Nat.reduceAdd, Nat.reduceSub, Nat.reduceMul, Nat.reduceLT, Nat.reduceLeDiff, Nat.reduceBEq, Nat.reduceEqDiff]
  refine loop_constH (HO.row (.slice (some ⟨b3, 0, none⟩) (g.ts + 2) (g.ts + 2)) 163 1 (cat slq (an3.map (aq g.c.depth.length))) :: (FR g.c.depth.length an3 g.void ++ T0)) (HImp.refl _ _) [(12, 15), (17, 19), (61, 142)] (fun q : Nat × List (List Frm) => [(61, I q.1)])
    (fun q H1 => q.1 ≤ g.ts + 2 ∧ g.Nxt i R (fun s x j => s < q.1) q.2 ∧ H1 = HO.row (.slice (some ⟨b3, 0, none⟩) (g.ts + 2) (g.ts + 2)) 163 1 (cat slq (an3.map (aq g.c.depth.length))) :: (FR g.c.depth.length an3 q.2 ++ T0)) (fun q => g.ts + 2 - q.1) (0, g.void) ?_ ⟨Nat.zero_le _, (Vg.Nxt.init g i R).mono fun s0 x0 j h => (by omega), rfl⟩ ?_
  · simp (config := { maxSteps := 4000000 }) only [↓sx0, ↓sx1, ↓sx2, ↓sx3, ↓sx4, ↓sx5, ↓sx6, sx0, sx1, sx2, sx3, sx4, sx5, sx6, tf82, ev3_hold, sxo, sxc, sxp, sxq, sxr, sxs, sxl, sxm, Int.reduceBEq, Int.reduceBNe, Int.reduceLT, Int.reduceLE, Int.reduceEq, Int.reduceGT, Int.reduceGE, Int.reduceToNat, ↓reduceIte, List.reduceReplicate, Nat.reduceAdd, Nat.reduceSub, Nat.reduceMul, Nat.reduceLT, Nat.reduceLeDiff, Nat.reduceBEq, Nat.reduceEqDiff]
    try simp
  rintro ⟨S, Nx⟩ H2 g2 hinv2
  simp only [] at hinv2
  obtain ⟨hS, hNx, rfl⟩ := hinv2
  by_cases hSn : S = g.ts + 2
  · have e10 : ((S : Int) < ((g.ts + 2 : Nat) : Int)) = False := eq_false (by omega)
    have hTn := hNx.tab hg (by omega) hTi (fun s x j h => by omega)
    have hTs2 : g.Tabs (tabs ++ [Nx]) := hTb.snoc (by rw [htl]; exact hTn) (fun R' _ hR' => by
      rw [htl, show i + 1 - 1 = i from rfl] at hR' ⊢
      rw [hRl] at hR'
      cases hR'
      exact hNx.prd)
    refine ⟨?_⟩
    simp (config := { maxSteps := 4000000 }) only [↓sx0, ↓sx1, ↓sx2, ↓sx3, ↓sx4, ↓sx5, ↓sx6, sx0, sx1, sx2, sx3, sx4, sx5, sx6, tf82, ev3_hold, sxo, sxc, sxp, sxq, sxr, sxs, sxl, sxm, Int.reduceBEq, Int.reduceBNe, Int.reduceLT, Int.reduceLE, Int.reduceEq, Int.reduceGT, Int.reduceGE, Int.reduceToNat, ↓reduceIte, List.reduceReplicate, Nat.reduceAdd, Nat.reduceSub, Nat.reduceMul, Nat.reduceLT, Nat.reduceLeDiff, Nat.reduceBEq, Nat.reduceEqDiff, e10]
    intro b9
    refine app_one (f := slq) (l := qs) ((some ⟨b3, 0, none⟩, g.ts + 2, g.ts + 2) : Option Addr × Nat × Nat) (A := HO.row (.slice (some ⟨b3, 0, none⟩) (g.ts + 2) (g.ts + 2)) 163 1 (cat slq (an3.map (aq g.c.depth.length))) :: (FR g.c.depth.length an3 Nx ++ (HO.cells bk 31 [I g.tc, I g.ts] :: HO.cells bx 84 [.pointer (some ⟨bs, 0, none⟩)] :: DF))) (by rw [← hT0e]; exact HImp.perm (List.perm_middle (l₁ := _ :: _))) slq_len (by simp [slq, Value.oneCell']) (by omega) fun a9 c9 => ?_
    rw [hql, htl]
    simp (config := { maxSteps := 4000000 }) only [↓sx0, ↓sx1, ↓sx2, ↓sx3, ↓sx4, ↓sx5, ↓sx6, sx0, sx1, sx2, sx3, sx4, sx5, sx6, tf82, ev3_hold, sxo, sxc, sxp, sxq, sxr, sxs, sxl, sxm, Int.reduceBEq, Int.reduceBNe, Int.reduceLT, Int.reduceLE, Int.reduceEq, Int.reduceGT, Int.reduceGE, Int.reduceToNat, ↓reduceIte, List.reduceReplicate, Nat.reduceAdd, Nat.reduceSub, Nat.reduceMul, Nat.reduceLT, Nat.reduceLeDiff, Nat.reduceBEq, Nat.reduceEqDiff, e8]
    refine ⟨(i + 1, a9, c9), _, ⟨rfl, rfl⟩, HImp.perm (List.Perm.cons _ ?_), ⟨by simp only []; omega, qs ++ [(some ⟨b3, 0, none⟩, g.ts + 2, g.ts + 2)], tabs ++ [Nx], (HO.row (.slice (some ⟨b3, 0, none⟩) (g.ts + 2) (g.ts + 2)) 163 1 (cat slq (an3.map (aq g.c.depth.length))) :: FR g.c.depth.length an3 Nx) ++ DF, rfl, by rw [List.length_append, htl]; rfl, LogM.snoc (hLM.mono fun h hh => List.mem_append_right _ hh) han3 (List.mem_append_left _ List.mem_cons_self) (fun h hh => List.mem_append_left _ (List.mem_cons_of_mem _ hh)), hTs2⟩, by simp only []; omega⟩
    exact (List.perm_middle (l₁ := HO.row (.slice (some ⟨b3, 0, none⟩) (g.ts + 2) (g.ts + 2)) 163 1 (cat slq (an3.map (aq g.c.depth.length))) :: FR g.c.depth.length an3 Nx)).trans (List.Perm.cons _ (List.perm_middle (l₁ := HO.row (.slice (some ⟨b3, 0, none⟩) (g.ts + 2) (g.ts + 2)) 163 1 (cat slq (an3.map (aq g.c.depth.length))) :: FR g.c.depth.length an3 Nx)))
  have e10 : ((S : Int) < ((g.ts + 2 : Nat) : Int)) = True := eq_true (by omega)
  have e11 : wr (S + 1) = ((S + 1 : Nat) : Int) := (wrap_id (by omega)).trans (by omega)
  have hSl : S < g.ts + 2 := by omega
  have habS := List.getElem?_eq_getElem (show S < ab.length by omega)
  have hqS : (ab.map (aq g.c.depth.length))[S]? = some (aq g.c.depth.length (ab[S]'(by omega))) := by rw [List.getElem?_map, habS]; rfl
  have hRsh := hTi.shape
  have hrowS := tF _ (FR_mem (n := g.c.depth.length) (aa := ab) (R := R) (by rw [habl, hRsh.1]) (s := S) (by omega))
  obtain ⟨aS, haS⟩ : ∃ aS, ab[S]'(by omega) = aS := ⟨_, rfl⟩
  rw [haS] at hqS hrowS
  refine ⟨?_⟩
  simp (config := { maxSteps := 4000000 }) only [↓sx0, ↓sx1, ↓sx2, ↓sx3, ↓sx4, ↓sx5, ↓sx6, sx0, sx1, sx2, sx3, sx4, sx5, sx6, tf82, ev3_hold, sxo, sxc, sxp, sxq, sxr, sxs, sxl, sxm, Int.reduceBEq, Int.reduceBNe, Int.reduceLT, Int.reduceLE, Int.reduceEq, Int.reduceGT, Int.reduceGE, Int.reduceToNat, ↓reduceIte, List.reduceReplicate, Nat.reduceAdd, Nat.reduceSub, Nat.reduceMul, Nat.reduceLT, Nat.reduceLeDiff, Nat.reduceBEq, Nat.reduceEqDiff, e10]
  refine amid (at_1 (row_rdS (E := 163) (List.mem_cons_of_mem _ (List.mem_append_right _ tB)) slq_len (by rw [List.length_map, habl])) slq_len hqS (show slq (aq _ _) = [Value.slice (some aS) g.c.depth.length g.c.depth.length] from rfl) fun ad3 => ?_)
  simp (config := { maxSteps := 4000000 }) only [↓sx0, ↓sx1, ↓sx2, ↓sx3, ↓sx4, ↓sx5, ↓sx6, sx0, sx1, sx2, sx3, sx4, sx5, sx6, tf82, ev3_hold, sxo, sxc, sxp, sxq, sxr, sxs, sxl, sxm, Int.reduceBEq, Int.reduceBNe, Int.reduceLT, Int.reduceLE, Int.reduceEq, Int.reduceGT, Int.reduceGE, Int.reduceToNat, ↓reduceIte, List.reduceReplicate, Nat.reduceAdd, Nat.reduceSub, Nat.reduceMul, Nat.reduceLT, Nat.reduceLeDiff, Nat.reduceBEq, Nat.reduceEqDiff]
  refine loop_constH _ (HImp.refl _ _) [(14, 15), (17, 19), (68, 141)] (fun q : Nat × List (List Frm) => [(68, I q.1)])
    (fun q H1 => q.1 ≤ g.c.depth.length ∧ g.Nxt i R (fun s x j => s < S ∨ s = S ∧ (x < q.1 ∨ x = q.1 ∧ j < 0)) q.2 ∧ H1 = HO.row (.slice (some ⟨b3, 0, none⟩) (g.ts + 2) (g.ts + 2)) 163 1 (cat slq (an3.map (aq g.c.depth.length))) :: (FR g.c.depth.length an3 q.2 ++ T0)) (fun q => g.c.depth.length - q.1) (0, Nx) ?_ ⟨Nat.zero_le _, hNx.mono fun s0 x0 j h => (by omega), rfl⟩ ?_
  · simp (config := { maxSteps := 4000000 }) only [↓sx0, ↓sx1, ↓sx2, ↓sx3, ↓sx4, ↓sx5, ↓sx6, sx0, sx1, sx2, sx3, sx4, sx5, sx6, tf82, ev3_hold, sxo, sxc, sxp, sxq, sxr, sxs, sxl, sxm, Int.reduceBEq, Int.reduceBNe, Int.reduceLT, Int.reduceLE, Int.reduceEq, Int.reduceGT, Int.reduceGE, Int.reduceToNat, ↓reduceIte, List.reduceReplicate, Nat.reduceAdd, Nat.reduceSub, Nat.reduceMul, Nat.reduceLT, Nat.reduceLeDiff, Nat.reduceBEq, Nat.reduceEqDiff]
    try simp
  rintro ⟨X, Ny⟩ H3 g3 hinv3
  simp only [] at hinv3
  obtain ⟨hX, hNy, rfl⟩ := hinv3
  by_cases hXn : X = g.c.depth.length
  · have e12 : ((X : Int) < (g.c.depth.length : Int)) = False := eq_false (by omega)
    refine ⟨?_⟩
    simp (config := { maxSteps := 4000000 }) only [↓sx0, ↓sx1, ↓sx2, ↓sx3, ↓sx4, ↓sx5, ↓sx6, sx0, sx1, sx2, sx3, sx4, sx5, sx6, tf82, ev3_hold, sxo, sxc, sxp, sxq, sxr, sxs, sxl, sxm, Int.reduceBEq, Int.reduceBNe, Int.reduceLT, Int.reduceLE, Int.reduceEq, Int.reduceGT, Int.reduceGE, Int.reduceToNat, ↓reduceIte, List.reduceReplicate, Nat.reduceAdd, Nat.reduceSub, Nat.reduceMul, Nat.reduceLT, Nat.reduceLeDiff, Nat.reduceBEq, Nat.reduceEqDiff, e12, e11]
    exact ⟨(S + 1, Ny), _, rfl, HImp.refl _ _, ⟨by simp only []; omega, hNy.mono fun s0 x0 j h h1 h2 _ _ => (by omega), rfl⟩, by simp only []; omega⟩
  have e12 : ((X : Int) < (g.c.depth.length : Int)) = True := eq_true (by omega)
  have e13 : wr (X + 1) = ((X + 1 : Nat) : Int) := (wrap_id (by omega)).trans (by omega)
  have hXl : X < g.c.depth.length := by omega
  have hu := en_get hRsh hSl hXl
  have hbd := hTi.bd hg hSl hXl
  obtain ⟨e, he⟩ : ∃ e, en R S X = e := ⟨_, rfl⟩
  rw [he] at hu hbd
  obtain ⟨B, pc, pz⟩ := e
  simp only [] at hbd
  by_cases hB : B = nvr
  · have p1 : (B = 1073741824) = True := eq_true hB
    refine ⟨?_⟩
    simp (config := { maxSteps := 4000000 }) only [↓sx0, ↓sx1, ↓sx2, ↓sx3, ↓sx4, ↓sx5, ↓sx6, sx0, sx1, sx2, sx3, sx4, sx5, sx6, tf82, ev3_hold, sxo, sxc, sxp, sxq, sxr, sxs, sxl, sxm, Int.reduceBEq, Int.reduceBNe, Int.reduceLT, Int.reduceLE, Int.reduceEq, Int.reduceGT, Int.reduceGE, Int.reduceToNat, ↓reduceIte, List.reduceReplicate, Nat.reduceAdd, Nat.reduceSub, Nat.reduceMul, Nat.reduceLT, Nat.reduceLeDiff, Nat.reduceBEq, Nat.reduceEqDiff, e12]
    refine amid (at_n (row_rdS (E := 162) (List.mem_cons_of_mem _ (List.mem_append_right _ hrowS)) frc_len (hRsh.2 S hSl)) frc_len (by omega) hu fun ad4 => ?_)
    unfold frc
    simp (config := { maxSteps := 4000000 }) only [↓sx0, ↓sx1, ↓sx2, ↓sx3, ↓sx4, ↓sx5, ↓sx6, sx0, sx1, sx2, sx3, sx4, sx5, sx6, tf82, ev3_hold, sxo, sxc, sxp, sxq, sxr, sxs, sxl, sxm, Int.reduceBEq, Int.reduceBNe, Int.reduceLT, Int.reduceLE, Int.reduceEq, Int.reduceGT, Int.reduceGE, Int.reduceToNat, ↓reduceIte, List.reduceReplicate, Nat.reduceAdd, Nat.reduceSub, Nat.reduceMul, Nat.reduceLT, Nat.reduceLeDiff, Nat.reduceBEq, Nat.reduceEqDiff]
    intro b5
    refine wr_cell (A := []) rfl (by simp) ?_
    simp (config := { maxSteps := 4000000 }) only [↓sx0, ↓sx1, ↓sx2, ↓sx3, ↓sx4, ↓sx5, ↓sx6, sx0, sx1, sx2, sx3, sx4, sx5, sx6, tf82, ev3_hold, sxo, sxc, sxp, sxq, sxr, sxs, sxl, sxm, Int.reduceBEq, Int.reduceBNe, Int.reduceLT, Int.reduceLE, Int.reduceEq, Int.reduceGT, Int.reduceGE, Int.reduceToNat, ↓reduceIte, List.reduceReplicate, Nat.reduceAdd, Nat.reduceSub, Nat.reduceMul, Nat.reduceLT, Nat.reduceLeDiff, Nat.reduceBEq, Nat.reduceEqDiff, List.take, List.drop, List.length_cons, List.length_nil, List.nil_append]
    refine ld_cella (T := 162) (cs := [I B, I pc, I pz]) (by simp) rfl ?_
    simp (config := { maxSteps := 4000000 }) only [↓sx0, ↓sx1, ↓sx2, ↓sx3, ↓sx4, ↓sx5, ↓sx6, sx0, sx1, sx2, sx3, sx4, sx5, sx6, tf82, ev3_hold, sxo, sxc, sxp, sxq, sxr, sxs, sxl, sxm, Int.reduceBEq, Int.reduceBNe, Int.reduceLT, Int.reduceLE, Int.reduceEq, Int.reduceGT, Int.reduceGE, Int.reduceToNat, ↓reduceIte, List.reduceReplicate, Nat.reduceAdd, Nat.reduceSub, Nat.reduceMul, Nat.reduceLT, Nat.reduceLeDiff, Nat.reduceBEq, Nat.reduceEqDiff, p1, e13]
    exact ⟨(X + 1, Ny), _, rfl, HImp.tail _ _ _, ⟨by simp only []; omega, hNy.mono fun s0 x0 j h h1 h2 h3 _ => (by
      by_cases hc : s0 = S ∧ x0 = X
      · obtain ⟨rfl, rfl⟩ := hc
        rw [he] at h3
        exact absurd hB h3
      · omega), rfl⟩, by simp only []; omega⟩
  have p1 : (B = 1073741824) = False := eq_false hB
  have hBb : 0 ≤ B ∧ B ≤ 10000 := by
    rcases hbd with h | h
    · exact absurd h hB
    · omega
  have hnt : (nearL g.c)[X]? = some (nts (nbL g.c.W g.c.H X)) := by
    unfold nearL
    rw [List.getElem?_map, List.getElem?_range hXl]
    rfl
  obtain ⟨qn, hqn, hqns⟩ := hnv _ _ hnt
  have hqnl := hqns.le i1_len (by omega)
  have hqnr := hqns.rd0
  have hnl7 := nbL_len g.c.W g.c.H X
  have hntl : (nts (nbL g.c.W g.c.H X)).length = (nbL g.c.W g.c.H X).length := by unfold nts; rw [List.length_map]
  obtain ⟨qa, ql, qcp⟩ := qn
  simp only [] at hqnl hqnr hqns
  refine ⟨?_⟩
  simp (config := { maxSteps := 4000000 }) only [↓sx0, ↓sx1, ↓sx2, ↓sx3, ↓sx4, ↓sx5, ↓sx6, sx0, sx1, sx2, sx3, sx4, sx5, sx6, tf82, ev3_hold, sxo, sxc, sxp, sxq, sxr, sxs, sxl, sxm, Int.reduceBEq, Int.reduceBNe, Int.reduceLT, Int.reduceLE, Int.reduceEq, Int.reduceGT, Int.reduceGE, Int.reduceToNat, ↓reduceIte, List.reduceReplicate, Nat.reduceAdd, Nat.reduceSub, Nat.reduceMul, Nat.reduceLT, Nat.reduceLeDiff, Nat.reduceBEq, Nat.reduceEqDiff, e12]
  refine amid (at_n (row_rdS (E := 162) (List.mem_cons_of_mem _ (List.mem_append_right _ hrowS)) frc_len (hRsh.2 S hSl)) frc_len (by omega) hu fun ad4 => ?_)
  unfold frc
  simp (config := { maxSteps := 4000000 }) only [↓sx0, ↓sx1, ↓sx2, ↓sx3, ↓sx4, ↓sx5, ↓sx6, sx0, sx1, sx2, sx3, sx4, sx5, sx6, tf82, ev3_hold, sxo, sxc, sxp, sxq, sxr, sxs, sxl, sxm, Int.reduceBEq, Int.reduceBNe, Int.reduceLT, Int.reduceLE, Int.reduceEq, Int.reduceGT, Int.reduceGE, Int.reduceToNat, ↓reduceIte, List.reduceReplicate, Nat.reduceAdd, Nat.reduceSub, Nat.reduceMul, Nat.reduceLT, Nat.reduceLeDiff, Nat.reduceBEq, Nat.reduceEqDiff]
  intro b5
  refine wr_cell (A := []) rfl (by simp) ?_
  simp (config := { maxSteps := 4000000 }) only [↓sx0, ↓sx1, ↓sx2, ↓sx3, ↓sx4, ↓sx5, ↓sx6, sx0, sx1, sx2, sx3, sx4, sx5, sx6, tf82, ev3_hold, sxo, sxc, sxp, sxq, sxr, sxs, sxl, sxm, Int.reduceBEq, Int.reduceBNe, Int.reduceLT, Int.reduceLE, Int.reduceEq, Int.reduceGT, Int.reduceGE, Int.reduceToNat, ↓reduceIte, List.reduceReplicate, Nat.reduceAdd, Nat.reduceSub, Nat.reduceMul, Nat.reduceLT, Nat.reduceLeDiff, Nat.reduceBEq, Nat.reduceEqDiff, List.take, List.drop, List.length_cons, List.length_nil, List.nil_append]
  refine ld_cella (T := 162) (cs := [I B, I pc, I pz]) (by simp) rfl ?_
  simp (config := { maxSteps := 4000000 }) only [↓sx0, ↓sx1, ↓sx2, ↓sx3, ↓sx4, ↓sx5, ↓sx6, sx0, sx1, sx2, sx3, sx4, sx5, sx6, tf82, ev3_hold, sxo, sxc, sxp, sxq, sxr, sxs, sxl, sxm, Int.reduceBEq, Int.reduceBNe, Int.reduceLT, Int.reduceLE, Int.reduceEq, Int.reduceGT, Int.reduceGE, Int.reduceToNat, ↓reduceIte, List.reduceReplicate, Nat.reduceAdd, Nat.reduceSub, Nat.reduceMul, Nat.reduceLT, Nat.reduceLeDiff, Nat.reduceBEq, Nat.reduceEqDiff, p1]
  refine ld_cell (T := 84) (cs := [.pointer (some ⟨bs, 0, none⟩)]) (List.mem_cons_of_mem _ (List.mem_cons_of_mem _ (List.mem_append_right _ tX))) rfl ?_
  simp (config := { maxSteps := 4000000 }) only [↓sx0, ↓sx1, ↓sx2, ↓sx3, ↓sx4, ↓sx5, ↓sx6, sx0, sx1, sx2, sx3, sx4, sx5, sx6, tf82, ev3_hold, sxo, sxc, sxp, sxq, sxr, sxs, sxl, sxm, Int.reduceBEq, Int.reduceBNe, Int.reduceLT, Int.reduceLE, Int.reduceEq, Int.reduceGT, Int.reduceGE, Int.reduceToNat, ↓reduceIte, List.reduceReplicate, Nat.reduceAdd, Nat.reduceSub, Nat.reduceMul, Nat.reduceLT, Nat.reduceLeDiff, Nat.reduceBEq, Nat.reduceEqDiff]
  refine ld_olda (by simp [add_block]) m15 id ?_
  simp (config := { maxSteps := 4000000 }) only [↓sx0, ↓sx1, ↓sx2, ↓sx3, ↓sx4, ↓sx5, ↓sx6, sx0, sx1, sx2, sx3, sx4, sx5, sx6, tf82, ev3_hold, sxo, sxc, sxp, sxq, sxr, sxs, sxl, sxm, Int.reduceBEq, Int.reduceBNe, Int.reduceLT, Int.reduceLE, Int.reduceEq, Int.reduceGT, Int.reduceGE, Int.reduceToNat, ↓reduceIte, List.reduceReplicate, Nat.reduceAdd, Nat.reduceSub, Nat.reduceMul, Nat.reduceLT, Nat.reduceLeDiff, Nat.reduceBEq, Nat.reduceEqDiff]
  refine at_1 (hrn _) slq_len hqn rfl fun ad5 => ?_
  simp (config := { maxSteps := 4000000 }) only [↓sx0, ↓sx1, ↓sx2, ↓sx3, ↓sx4, ↓sx5, ↓sx6, sx0, sx1, sx2, sx3, sx4, sx5, sx6, tf82, ev3_hold, sxo, sxc, sxp, sxq, sxr, sxs, sxl, sxm, Int.reduceBEq, Int.reduceBNe, Int.reduceLT, Int.reduceLE, Int.reduceEq, Int.reduceGT, Int.reduceGE, Int.reduceToNat, ↓reduceIte, List.reduceReplicate, Nat.reduceAdd, Nat.reduceSub, Nat.reduceMul, Nat.reduceLT, Nat.reduceLeDiff, Nat.reduceBEq, Nat.reduceEqDiff]
  refine loop_constH (HO.cells b5 162 [I B, I pc, I pz] :: HO.row (.slice (some ⟨b3, 0, none⟩) (g.ts + 2) (g.ts + 2)) 163 1 (cat slq (an3.map (aq g.c.depth.length))) :: (FR g.c.depth.length an3 Ny ++ T0)) (HImp.refl _ _) [(17, 19), (84, 140)] (fun q : Nat × List (List Frm) => [(84, I q.1)])
    (fun q H1 => q.1 ≤ (nbL g.c.W g.c.H X).length ∧ g.Nxt i R (fun s x j => s < S ∨ s = S ∧ (x < X ∨ x = X ∧ j < q.1)) q.2 ∧ H1 = HO.cells b5 162 [I B, I pc, I pz] :: HO.row (.slice (some ⟨b3, 0, none⟩) (g.ts + 2) (g.ts + 2)) 163 1 (cat slq (an3.map (aq g.c.depth.length))) :: (FR g.c.depth.length an3 q.2 ++ T0)) (fun q => (nbL g.c.W g.c.H X).length - q.1) (0, Ny) ?_ ⟨Nat.zero_le _, hNy, rfl⟩ ?_
  · simp (config := { maxSteps := 4000000 }) only [↓sx0, ↓sx1, ↓sx2, ↓sx3, ↓sx4, ↓sx5, ↓sx6, sx0, sx1, sx2, sx3, sx4, sx5, sx6, tf82, ev3_hold, sxo, sxc, sxp, sxq, sxr, sxs, sxl, sxm, Int.reduceBEq, Int.reduceBNe, Int.reduceLT, Int.reduceLE, Int.reduceEq, Int.reduceGT, Int.reduceGE, Int.reduceToNat, ↓reduceIte, List.reduceReplicate, Nat.reduceAdd, Nat.reduceSub, Nat.reduceMul, Nat.reduceLT, Nat.reduceLeDiff, Nat.reduceBEq, Nat.reduceEqDiff]
    try simp
  rintro ⟨J, Nz⟩ H4 g4 hinv4
  simp only [] at hinv4
  obtain ⟨hJ, hNz, rfl⟩ := hinv4
  by_cases hJn : J = (nbL g.c.W g.c.H X).length
  · have e14 : ((J : Int) < (ql : Int)) = False := eq_false (by omega)
    refine ⟨?_⟩
    simp (config := { maxSteps := 4000000 }) only [↓sx0, ↓sx1, ↓sx2, ↓sx3, ↓sx4, ↓sx5, ↓sx6, sx0, sx1, sx2, sx3, sx4, sx5, sx6, tf82, ev3_hold, sxo, sxc, sxp, sxq, sxr, sxs, sxl, sxm, Int.reduceBEq, Int.reduceBNe, Int.reduceLT, Int.reduceLE, Int.reduceEq, Int.reduceGT, Int.reduceGE, Int.reduceToNat, ↓reduceIte, List.reduceReplicate, Nat.reduceAdd, Nat.reduceSub, Nat.reduceMul, Nat.reduceLT, Nat.reduceLeDiff, Nat.reduceBEq, Nat.reduceEqDiff, e14, e13]
    exact ⟨(X + 1, Nz), _, rfl, HImp.tail _ _ _, ⟨by simp only []; omega, hNz.mono fun s0 x0 j h h1 h2 h3 h4 => (by
      by_cases hx0 : x0 = X
      · subst hx0
        omega
      · omega), rfl⟩, by simp only []; omega⟩
  have e14 : ((J : Int) < (ql : Int)) = True := eq_true (by omega)
  have e15 : wr (J + 1) = ((J + 1 : Nat) : Int) := (wrap_id (by omega)).trans (by omega)
  have hJl : J < (nbL g.c.W g.c.H X).length := by omega
  have hy := List.getElem?_eq_getElem hJl
  have hyl := nb_lt hg hXl (List.getElem_mem hJl)
  obtain ⟨y, hye⟩ : ∃ y, (nbL g.c.W g.c.H X)[J] = y := ⟨_, rfl⟩
  rw [hye] at hy hyl
  have hyi : (nts (nbL g.c.W g.c.H X))[J]? = some (y : Int) := by unfold nts; rw [List.getElem?_map, hy]; rfl
  have hdn : ∀ s0 x0 j, (s0 < S ∨ s0 = S ∧ (x0 < X ∨ x0 = X ∧ j < J + 1)) → s0 < g.ts + 2 → x0 < g.c.depth.length → (en R s0 x0).1 ≠ nvr → j < (nbL g.c.W g.c.H x0).length → ((s0 < S ∨ s0 = S ∧ (x0 < X ∨ x0 = X ∧ j < J)) ∨ s0 = S ∧ x0 = X ∧ j = J) := fun s0 x0 j h _ _ _ _ => by omega
  have dS := detT_eq g (y := y) (s := S) (by omega)
  have hst1 := g.st_le (y := y) hSl
  have hbet := fun hc hl => hNz.better (S := S) (X := X) (J := J) hSl hXl hyl (by rw [he]; exact hB) hy hc hl
  obtain ⟨S1, hS1⟩ : ∃ S1, g.st y S = S1 := ⟨_, rfl⟩
  rw [hS1, he] at hbet
  rw [hS1] at dS hst1
  simp only [] at hbet
  have hNzs := hNz.shape
  have hcur := en_get hNzs hst1 hyl
  have h3u := List.getElem?_eq_getElem (show S1 < an3.length by omega)
  have hrow3 := FR_mem (n := g.c.depth.length) (aa := an3) (R := Nz) (by rw [han3, hNzs.1]) (s := S1) (by omega)
  have hF3 := FR_at (n := g.c.depth.length) (aa := an3) (R := Nz) (by rw [han3, hNzs.1]) (s := S1) (by omega)
  obtain ⟨a3, hS1a⟩ : ∃ a3, an3[S1]'(by omega) = a3 := ⟨_, rfl⟩
  rw [hS1a] at h3u hrow3 hF3
  have hq3 : (an3.map (aq g.c.depth.length))[S1]? = some (aq g.c.depth.length a3) := by rw [List.getElem?_map, h3u]; rfl
  have hct : (canL g.c g.b)[g.t + 1 + i]? = some (canT g.c g.b (g.t + i + 1)) := by
    unfold canL
    rw [List.getElem?_map, List.getElem?_range (by omega), show g.t + 1 + i = g.t + i + 1 by omega]
    rfl
  obtain ⟨qc, hqc, hqcs⟩ := hcv _ _ hct
  have hqcr := hqcs.rd0
  have hqcl := hqcs.le b1_len (by omega)
  have hcm : (canT g.c g.b (g.t + i + 1))[y]? = some (canB g.c g.b (g.t + i + 1) y) := by
    unfold canT
    rw [List.getElem?_map, List.getElem?_range hyl]
    rfl
  obtain ⟨qca, qcl, qcc⟩ := qc
  simp only [] at hqcr hqcl hqcs
  have hctl : (canT g.c g.b (g.t + i + 1)).length = g.c.depth.length := by unfold canT; rw [List.length_map, List.length_range]
  have hcb := (clsB_iff g.b).1 hg.cls
  have eM : wr (B + g.b.move) = B + g.b.move := wrap_id (by omega)
  by_cases hyX : y = X
  case neg =>
    have p2 : ((y : Int) = (X : Int)) = False := eq_false (by omega)
    have hW : B + g.b.move = B + g.wg X y := by unfold Vg.wg; rw [if_neg hyX]
    have eM2 : wr (B + g.b.move) = B + g.wg X y := eM.trans hW
    refine ⟨?_⟩
    simp (config := { maxSteps := 4000000 }) only [↓sx0, ↓sx1, ↓sx2, ↓sx3, ↓sx4, ↓sx5, ↓sx6, sx0, sx1, sx2, sx3, sx4, sx5, sx6, tf82, ev3_hold, sxo, sxc, sxp, sxq, sxr, sxs, sxl, sxm, Int.reduceBEq, Int.reduceBNe, Int.reduceLT, Int.reduceLE, Int.reduceEq, Int.reduceGT, Int.reduceGE, Int.reduceToNat, ↓reduceIte, List.reduceReplicate, Nat.reduceAdd, Nat.reduceSub, Nat.reduceMul, Nat.reduceLT, Nat.reduceLeDiff, Nat.reduceBEq, Nat.reduceEqDiff, e14]
    refine amid (at_1 (hqnr _) i1_len hyi rfl fun ad6 => ?_)
    simp (config := { maxSteps := 4000000 }) only [↓sx0, ↓sx1, ↓sx2, ↓sx3, ↓sx4, ↓sx5, ↓sx6, sx0, sx1, sx2, sx3, sx4, sx5, sx6, tf82, ev3_hold, sxo, sxc, sxp, sxq, sxr, sxs, sxl, sxm, Int.reduceBEq, Int.reduceBNe, Int.reduceLT, Int.reduceLE, Int.reduceEq, Int.reduceGT, Int.reduceGE, Int.reduceToNat, ↓reduceIte, List.reduceReplicate, Nat.reduceAdd, Nat.reduceSub, Nat.reduceMul, Nat.reduceLT, Nat.reduceLeDiff, Nat.reduceBEq, Nat.reduceEqDiff, pl82_lk]
    refine ld_cella (T := 162) (cs := [I B, I pc, I pz]) List.mem_cons_self rfl ?_
    simp (config := { maxSteps := 4000000 }) only [↓sx0, ↓sx1, ↓sx2, ↓sx3, ↓sx4, ↓sx5, ↓sx6, sx0, sx1, sx2, sx3, sx4, sx5, sx6, tf82, ev3_hold, sxo, sxc, sxp, sxq, sxr, sxs, sxl, sxm, Int.reduceBEq, Int.reduceBNe, Int.reduceLT, Int.reduceLE, Int.reduceEq, Int.reduceGT, Int.reduceGE, Int.reduceToNat, ↓reduceIte, List.reduceReplicate, Nat.reduceAdd, Nat.reduceSub, Nat.reduceMul, Nat.reduceLT, Nat.reduceLeDiff, Nat.reduceBEq, Nat.reduceEqDiff]
    refine ld_cell (T := 84) (cs := [.pointer (some ⟨bs, 0, none⟩)]) (List.mem_cons_of_mem _ (List.mem_cons_of_mem _ (List.mem_append_right _ tX))) rfl ?_
    simp (config := { maxSteps := 4000000 }) only [↓sx0, ↓sx1, ↓sx2, ↓sx3, ↓sx4, ↓sx5, ↓sx6, sx0, sx1, sx2, sx3, sx4, sx5, sx6, tf82, ev3_hold, sxo, sxc, sxp, sxq, sxr, sxs, sxl, sxm, Int.reduceBEq, Int.reduceBNe, Int.reduceLT, Int.reduceLE, Int.reduceEq, Int.reduceGT, Int.reduceGE, Int.reduceToNat, ↓reduceIte, List.reduceReplicate, Nat.reduceAdd, Nat.reduceSub, Nat.reduceMul, Nat.reduceLT, Nat.reduceLeDiff, Nat.reduceBEq, Nat.reduceEqDiff]
    refine ld_olda (by simp [add_block]) m7 id ?_
    simp (config := { maxSteps := 4000000 }) only [↓sx0, ↓sx1, ↓sx2, ↓sx3, ↓sx4, ↓sx5, ↓sx6, sx0, sx1, sx2, sx3, sx4, sx5, sx6, tf82, ev3_hold, sxo, sxc, sxp, sxq, sxr, sxs, sxl, sxm, Int.reduceBEq, Int.reduceBNe, Int.reduceLT, Int.reduceLE, Int.reduceEq, Int.reduceGT, Int.reduceGE, Int.reduceToNat, ↓reduceIte, List.reduceReplicate, Nat.reduceAdd, Nat.reduceSub, Nat.reduceMul, Nat.reduceLT, Nat.reduceLeDiff, Nat.reduceBEq, Nat.reduceEqDiff, eM2, p2]
    refine ld_cells (T := 31) (cs := [I g.tc, I g.ts]) [I g.tc, I g.ts] (List.mem_cons_of_mem _ (List.mem_cons_of_mem _ (List.mem_append_right _ tK))) rfl rfl ?_
    simp (config := { maxSteps := 4000000 }) only [↓sx0, ↓sx1, ↓sx2, ↓sx3, ↓sx4, ↓sx5, ↓sx6, sx0, sx1, sx2, sx3, sx4, sx5, sx6, tf82, ev3_hold, sxo, sxc, sxp, sxq, sxr, sxs, sxl, sxm, Int.reduceBEq, Int.reduceBNe, Int.reduceLT, Int.reduceLE, Int.reduceEq, Int.reduceGT, Int.reduceGE, Int.reduceToNat, ↓reduceIte, List.reduceReplicate, Nat.reduceAdd, Nat.reduceSub, Nat.reduceMul, Nat.reduceLT, Nat.reduceLeDiff, Nat.reduceBEq, Nat.reduceEqDiff, dS]
    refine at_1 (row_rdS (E := 163) (List.mem_cons_of_mem _ List.mem_cons_self) slq_len (by rw [List.length_map, han3])) slq_len hq3 (show slq (aq _ _) = [Value.slice (some a3) g.c.depth.length g.c.depth.length] from rfl) fun ad6 => ?_
    simp (config := { maxSteps := 4000000 }) only [↓sx0, ↓sx1, ↓sx2, ↓sx3, ↓sx4, ↓sx5, ↓sx6, sx0, sx1, sx2, sx3, sx4, sx5, sx6, tf82, ev3_hold, sxo, sxc, sxp, sxq, sxr, sxs, sxl, sxm, Int.reduceBEq, Int.reduceBNe, Int.reduceLT, Int.reduceLE, Int.reduceEq, Int.reduceGT, Int.reduceGE, Int.reduceToNat, ↓reduceIte, List.reduceReplicate, Nat.reduceAdd, Nat.reduceSub, Nat.reduceMul, Nat.reduceLT, Nat.reduceLeDiff, Nat.reduceBEq, Nat.reduceEqDiff]
    refine ⟨by omega, by omega, _, rfl, ?_⟩
    refine ld_cell (T := 84) (cs := [.pointer (some ⟨bs, 0, none⟩)]) (List.mem_cons_of_mem _ (List.mem_cons_of_mem _ (List.mem_append_right _ tX))) rfl ?_
    simp (config := { maxSteps := 4000000 }) only [↓sx0, ↓sx1, ↓sx2, ↓sx3, ↓sx4, ↓sx5, ↓sx6, sx0, sx1, sx2, sx3, sx4, sx5, sx6, tf82, ev3_hold, sxo, sxc, sxp, sxq, sxr, sxs, sxl, sxm, Int.reduceBEq, Int.reduceBNe, Int.reduceLT, Int.reduceLE, Int.reduceEq, Int.reduceGT, Int.reduceGE, Int.reduceToNat, ↓reduceIte, List.reduceReplicate, Nat.reduceAdd, Nat.reduceSub, Nat.reduceMul, Nat.reduceLT, Nat.reduceLeDiff, Nat.reduceBEq, Nat.reduceEqDiff]
    refine ld_olda (by simp [add_block]) m14 id ?_
    simp (config := { maxSteps := 4000000 }) only [↓sx0, ↓sx1, ↓sx2, ↓sx3, ↓sx4, ↓sx5, ↓sx6, sx0, sx1, sx2, sx3, sx4, sx5, sx6, tf82, ev3_hold, sxo, sxc, sxp, sxq, sxr, sxs, sxl, sxm, Int.reduceBEq, Int.reduceBNe, Int.reduceLT, Int.reduceLE, Int.reduceEq, Int.reduceGT, Int.reduceGE, Int.reduceToNat, ↓reduceIte, List.reduceReplicate, Nat.reduceAdd, Nat.reduceSub, Nat.reduceMul, Nat.reduceLT, Nat.reduceLeDiff, Nat.reduceBEq, Nat.reduceEqDiff]
    refine at_1 (hrc _) slq_len hqc rfl fun ad7 => ?_
    simp (config := { maxSteps := 4000000 }) only [↓sx0, ↓sx1, ↓sx2, ↓sx3, ↓sx4, ↓sx5, ↓sx6, sx0, sx1, sx2, sx3, sx4, sx5, sx6, tf82, ev3_hold, sxo, sxc, sxp, sxq, sxr, sxs, sxl, sxm, Int.reduceBEq, Int.reduceBNe, Int.reduceLT, Int.reduceLE, Int.reduceEq, Int.reduceGT, Int.reduceGE, Int.reduceToNat, ↓reduceIte, List.reduceReplicate, Nat.reduceAdd, Nat.reduceSub, Nat.reduceMul, Nat.reduceLT, Nat.reduceLeDiff, Nat.reduceBEq, Nat.reduceEqDiff]
    refine at_1 (hqcr _) b1_len hcm rfl fun ad8 => ?_
    cases hcan : canB g.c g.b (g.t + i + 1) y with
    | false =>
      simp (config := { maxSteps := 4000000 }) only [↓sx0, ↓sx1, ↓sx2, ↓sx3, ↓sx4, ↓sx5, ↓sx6, sx0, sx1, sx2, sx3, sx4, sx5, sx6, tf82, ev3_hold, sxo, sxc, sxp, sxq, sxr, sxs, sxl, sxm, Int.reduceBEq, Int.reduceBNe, Int.reduceLT, Int.reduceLE, Int.reduceEq, Int.reduceGT, Int.reduceGE, Int.reduceToNat, ↓reduceIte, List.reduceReplicate, Nat.reduceAdd, Nat.reduceSub, Nat.reduceMul, Nat.reduceLT, Nat.reduceLeDiff, Nat.reduceBEq, Nat.reduceEqDiff, e15]
      exact ⟨(J + 1, Nz), _, rfl, HImp.refl _ _, ⟨by simp only []; omega, (hNz.skip (S := S) hy (fun h => absurd h (by rw [hcan]; exact Bool.false_ne_true))).mono hdn, rfl⟩, by simp only []; omega⟩
    | true =>
    simp (config := { maxSteps := 4000000 }) only [↓sx0, ↓sx1, ↓sx2, ↓sx3, ↓sx4, ↓sx5, ↓sx6, sx0, sx1, sx2, sx3, sx4, sx5, sx6, tf82, ev3_hold, sxo, sxc, sxp, sxq, sxr, sxs, sxl, sxm, Int.reduceBEq, Int.reduceBNe, Int.reduceLT, Int.reduceLE, Int.reduceEq, Int.reduceGT, Int.reduceGE, Int.reduceToNat, ↓reduceIte, List.reduceReplicate, Nat.reduceAdd, Nat.reduceSub, Nat.reduceMul, Nat.reduceLT, Nat.reduceLeDiff, Nat.reduceBEq, Nat.reduceEqDiff]
    refine ld_row (E := 162) (o := 0) (List.mem_cons_of_mem _ (List.mem_cons_of_mem _ (List.mem_append_left _ hrow3))) frc_len (hNzs.2 _ hst1) hcur (show (frc _)[0]? = some (I (en Nz S1 y).1) from rfl) ?_
    by_cases hlt : B + g.wg X y < (en Nz S1 y).1
    · have p3 : (B + g.wg X y < (en Nz S1 y).1) = True := eq_true hlt
      simp (config := { maxSteps := 4000000 }) only [↓sx0, ↓sx1, ↓sx2, ↓sx3, ↓sx4, ↓sx5, ↓sx6, sx0, sx1, sx2, sx3, sx4, sx5, sx6, tf82, ev3_hold, sxo, sxc, sxp, sxq, sxr, sxs, sxl, sxm, Int.reduceBEq, Int.reduceBNe, Int.reduceLT, Int.reduceLE, Int.reduceEq, Int.reduceGT, Int.reduceGE, Int.reduceToNat, ↓reduceIte, List.reduceReplicate, Nat.reduceAdd, Nat.reduceSub, Nat.reduceMul, Nat.reduceLT, Nat.reduceLeDiff, Nat.reduceBEq, Nat.reduceEqDiff, p3]
      refine wr_at (A := HO.cells b5 162 [I B, I pc, I pz] :: HO.row (.slice (some ⟨b3, 0, none⟩) (g.ts + 2) (g.ts + 2)) 163 1 (cat slq (an3.map (aq g.c.depth.length))) :: FR g.c.depth.length (an3.take S1) (Nz.take S1)) (B := FR g.c.depth.length (an3.drop (S1 + 1)) (Nz.drop (S1 + 1)) ++ T0) (f := frc) (l := Nz.getD S1 []) (u := ((B + g.wg X y, (X : Int), (S : Int)) : Frm)) (by rw [hF3, List.append_assoc]; rfl) frc_len (hNzs.2 _ hst1) (by rw [hNzs.2 _ hst1]; exact hyl) ?_
      simp (config := { maxSteps := 4000000 }) only [↓sx0, ↓sx1, ↓sx2, ↓sx3, ↓sx4, ↓sx5, ↓sx6, sx0, sx1, sx2, sx3, sx4, sx5, sx6, tf82, ev3_hold, sxo, sxc, sxp, sxq, sxr, sxs, sxl, sxm, Int.reduceBEq, Int.reduceBNe, Int.reduceLT, Int.reduceLE, Int.reduceEq, Int.reduceGT, Int.reduceGE, Int.reduceToNat, ↓reduceIte, List.reduceReplicate, Nat.reduceAdd, Nat.reduceSub, Nat.reduceMul, Nat.reduceLT, Nat.reduceLeDiff, Nat.reduceBEq, Nat.reduceEqDiff, e15]
      refine ⟨(J + 1, setE Nz S1 y (B + g.wg X y, (X : Int), (S : Int))), _, rfl, ?_, ⟨by simp only []; omega, (hbet hcan hlt).mono hdn, rfl⟩, by simp only []; omega⟩
      unfold setE
      rw [FR_set (by rw [han3, hNzs.1]) (by omega), hS1a]
      rw [List.append_assoc]
      exact HImp.refl _ _
    · have p3 : (B + g.wg X y < (en Nz S1 y).1) = False := eq_false hlt
      simp (config := { maxSteps := 4000000 }) only [↓sx0, ↓sx1, ↓sx2, ↓sx3, ↓sx4, ↓sx5, ↓sx6, sx0, sx1, sx2, sx3, sx4, sx5, sx6, tf82, ev3_hold, sxo, sxc, sxp, sxq, sxr, sxs, sxl, sxm, Int.reduceBEq, Int.reduceBNe, Int.reduceLT, Int.reduceLE, Int.reduceEq, Int.reduceGT, Int.reduceGE, Int.reduceToNat, ↓reduceIte, List.reduceReplicate, Nat.reduceAdd, Nat.reduceSub, Nat.reduceMul, Nat.reduceLT, Nat.reduceLeDiff, Nat.reduceBEq, Nat.reduceEqDiff, p3, e15]
      exact ⟨(J + 1, Nz), _, rfl, HImp.refl _ _, ⟨by simp only []; omega, (hNz.skip (S := S) hy (fun _ => by rw [hS1, he]; simp only []; omega)).mono hdn, rfl⟩, by simp only []; omega⟩
  case pos =>
    have p2 : ((y : Int) = (X : Int)) = True := eq_true (by omega)
    have hW : B + g.b.idle = B + g.wg X y := by unfold Vg.wg; rw [if_pos hyX]
    have eI : wr (B + g.b.idle) = B + g.wg X y := (wrap_id (by omega)).trans hW
    refine ⟨?_⟩
    simp (config := { maxSteps := 4000000 }) only [↓sx0, ↓sx1, ↓sx2, ↓sx3, ↓sx4, ↓sx5, ↓sx6, sx0, sx1, sx2, sx3, sx4, sx5, sx6, tf82, ev3_hold, sxo, sxc, sxp, sxq, sxr, sxs, sxl, sxm, Int.reduceBEq, Int.reduceBNe, Int.reduceLT, Int.reduceLE, Int.reduceEq, Int.reduceGT, Int.reduceGE, Int.reduceToNat, ↓reduceIte, List.reduceReplicate, Nat.reduceAdd, Nat.reduceSub, Nat.reduceMul, Nat.reduceLT, Nat.reduceLeDiff, Nat.reduceBEq, Nat.reduceEqDiff, e14]
    refine amid (at_1 (hqnr _) i1_len hyi rfl fun ad6 => ?_)
    simp (config := { maxSteps := 4000000 }) only [↓sx0, ↓sx1, ↓sx2, ↓sx3, ↓sx4, ↓sx5, ↓sx6, sx0, sx1, sx2, sx3, sx4, sx5, sx6, tf82, ev3_hold, sxo, sxc, sxp, sxq, sxr, sxs, sxl, sxm, Int.reduceBEq, Int.reduceBNe, Int.reduceLT, Int.reduceLE, Int.reduceEq, Int.reduceGT, Int.reduceGE, Int.reduceToNat, ↓reduceIte, List.reduceReplicate, Nat.reduceAdd, Nat.reduceSub, Nat.reduceMul, Nat.reduceLT, Nat.reduceLeDiff, Nat.reduceBEq, Nat.reduceEqDiff, pl82_lk]
    refine ld_cella (T := 162) (cs := [I B, I pc, I pz]) List.mem_cons_self rfl ?_
    simp (config := { maxSteps := 4000000 }) only [↓sx0, ↓sx1, ↓sx2, ↓sx3, ↓sx4, ↓sx5, ↓sx6, sx0, sx1, sx2, sx3, sx4, sx5, sx6, tf82, ev3_hold, sxo, sxc, sxp, sxq, sxr, sxs, sxl, sxm, Int.reduceBEq, Int.reduceBNe, Int.reduceLT, Int.reduceLE, Int.reduceEq, Int.reduceGT, Int.reduceGE, Int.reduceToNat, ↓reduceIte, List.reduceReplicate, Nat.reduceAdd, Nat.reduceSub, Nat.reduceMul, Nat.reduceLT, Nat.reduceLeDiff, Nat.reduceBEq, Nat.reduceEqDiff]
    refine ld_cell (T := 84) (cs := [.pointer (some ⟨bs, 0, none⟩)]) (List.mem_cons_of_mem _ (List.mem_cons_of_mem _ (List.mem_append_right _ tX))) rfl ?_
    simp (config := { maxSteps := 4000000 }) only [↓sx0, ↓sx1, ↓sx2, ↓sx3, ↓sx4, ↓sx5, ↓sx6, sx0, sx1, sx2, sx3, sx4, sx5, sx6, tf82, ev3_hold, sxo, sxc, sxp, sxq, sxr, sxs, sxl, sxm, Int.reduceBEq, Int.reduceBNe, Int.reduceLT, Int.reduceLE, Int.reduceEq, Int.reduceGT, Int.reduceGE, Int.reduceToNat, ↓reduceIte, List.reduceReplicate, Nat.reduceAdd, Nat.reduceSub, Nat.reduceMul, Nat.reduceLT, Nat.reduceLeDiff, Nat.reduceBEq, Nat.reduceEqDiff]
    refine ld_olda (by simp [add_block]) m7 id ?_
    simp (config := { maxSteps := 4000000 }) only [↓sx0, ↓sx1, ↓sx2, ↓sx3, ↓sx4, ↓sx5, ↓sx6, sx0, sx1, sx2, sx3, sx4, sx5, sx6, tf82, ev3_hold, sxo, sxc, sxp, sxq, sxr, sxs, sxl, sxm, Int.reduceBEq, Int.reduceBNe, Int.reduceLT, Int.reduceLE, Int.reduceEq, Int.reduceGT, Int.reduceGE, Int.reduceToNat, ↓reduceIte, List.reduceReplicate, Nat.reduceAdd, Nat.reduceSub, Nat.reduceMul, Nat.reduceLT, Nat.reduceLeDiff, Nat.reduceBEq, Nat.reduceEqDiff, eM, p2, pl82_lk]
    refine ld_cella (T := 162) (cs := [I B, I pc, I pz]) List.mem_cons_self rfl ?_
    simp (config := { maxSteps := 4000000 }) only [↓sx0, ↓sx1, ↓sx2, ↓sx3, ↓sx4, ↓sx5, ↓sx6, sx0, sx1, sx2, sx3, sx4, sx5, sx6, tf82, ev3_hold, sxo, sxc, sxp, sxq, sxr, sxs, sxl, sxm, Int.reduceBEq, Int.reduceBNe, Int.reduceLT, Int.reduceLE, Int.reduceEq, Int.reduceGT, Int.reduceGE, Int.reduceToNat, ↓reduceIte, List.reduceReplicate, Nat.reduceAdd, Nat.reduceSub, Nat.reduceMul, Nat.reduceLT, Nat.reduceLeDiff, Nat.reduceBEq, Nat.reduceEqDiff]
    refine ld_cell (T := 84) (cs := [.pointer (some ⟨bs, 0, none⟩)]) (List.mem_cons_of_mem _ (List.mem_cons_of_mem _ (List.mem_append_right _ tX))) rfl ?_
    simp (config := { maxSteps := 4000000 }) only [↓sx0, ↓sx1, ↓sx2, ↓sx3, ↓sx4, ↓sx5, ↓sx6, sx0, sx1, sx2, sx3, sx4, sx5, sx6, tf82, ev3_hold, sxo, sxc, sxp, sxq, sxr, sxs, sxl, sxm, Int.reduceBEq, Int.reduceBNe, Int.reduceLT, Int.reduceLE, Int.reduceEq, Int.reduceGT, Int.reduceGE, Int.reduceToNat, ↓reduceIte, List.reduceReplicate, Nat.reduceAdd, Nat.reduceSub, Nat.reduceMul, Nat.reduceLT, Nat.reduceLeDiff, Nat.reduceBEq, Nat.reduceEqDiff]
    refine ld_olda (by simp [add_block]) m8 id ?_
    simp (config := { maxSteps := 4000000 }) only [↓sx0, ↓sx1, ↓sx2, ↓sx3, ↓sx4, ↓sx5, ↓sx6, sx0, sx1, sx2, sx3, sx4, sx5, sx6, tf82, ev3_hold, sxo, sxc, sxp, sxq, sxr, sxs, sxl, sxm, Int.reduceBEq, Int.reduceBNe, Int.reduceLT, Int.reduceLE, Int.reduceEq, Int.reduceGT, Int.reduceGE, Int.reduceToNat, ↓reduceIte, List.reduceReplicate, Nat.reduceAdd, Nat.reduceSub, Nat.reduceMul, Nat.reduceLT, Nat.reduceLeDiff, Nat.reduceBEq, Nat.reduceEqDiff, eI]
    refine ld_cells (T := 31) (cs := [I g.tc, I g.ts]) [I g.tc, I g.ts] (List.mem_cons_of_mem _ (List.mem_cons_of_mem _ (List.mem_append_right _ tK))) rfl rfl ?_
    simp (config := { maxSteps := 4000000 }) only [↓sx0, ↓sx1, ↓sx2, ↓sx3, ↓sx4, ↓sx5, ↓sx6, sx0, sx1, sx2, sx3, sx4, sx5, sx6, tf82, ev3_hold, sxo, sxc, sxp, sxq, sxr, sxs, sxl, sxm, Int.reduceBEq, Int.reduceBNe, Int.reduceLT, Int.reduceLE, Int.reduceEq, Int.reduceGT, Int.reduceGE, Int.reduceToNat, ↓reduceIte, List.reduceReplicate, Nat.reduceAdd, Nat.reduceSub, Nat.reduceMul, Nat.reduceLT, Nat.reduceLeDiff, Nat.reduceBEq, Nat.reduceEqDiff, dS]
    refine at_1 (row_rdS (E := 163) (List.mem_cons_of_mem _ List.mem_cons_self) slq_len (by rw [List.length_map, han3])) slq_len hq3 (show slq (aq _ _) = [Value.slice (some a3) g.c.depth.length g.c.depth.length] from rfl) fun ad6 => ?_
    simp (config := { maxSteps := 4000000 }) only [↓sx0, ↓sx1, ↓sx2, ↓sx3, ↓sx4, ↓sx5, ↓sx6, sx0, sx1, sx2, sx3, sx4, sx5, sx6, tf82, ev3_hold, sxo, sxc, sxp, sxq, sxr, sxs, sxl, sxm, Int.reduceBEq, Int.reduceBNe, Int.reduceLT, Int.reduceLE, Int.reduceEq, Int.reduceGT, Int.reduceGE, Int.reduceToNat, ↓reduceIte, List.reduceReplicate, Nat.reduceAdd, Nat.reduceSub, Nat.reduceMul, Nat.reduceLT, Nat.reduceLeDiff, Nat.reduceBEq, Nat.reduceEqDiff]
    refine ⟨by omega, by omega, _, rfl, ?_⟩
    refine ld_cell (T := 84) (cs := [.pointer (some ⟨bs, 0, none⟩)]) (List.mem_cons_of_mem _ (List.mem_cons_of_mem _ (List.mem_append_right _ tX))) rfl ?_
    simp (config := { maxSteps := 4000000 }) only [↓sx0, ↓sx1, ↓sx2, ↓sx3, ↓sx4, ↓sx5, ↓sx6, sx0, sx1, sx2, sx3, sx4, sx5, sx6, tf82, ev3_hold, sxo, sxc, sxp, sxq, sxr, sxs, sxl, sxm, Int.reduceBEq, Int.reduceBNe, Int.reduceLT, Int.reduceLE, Int.reduceEq, Int.reduceGT, Int.reduceGE, Int.reduceToNat, ↓reduceIte, List.reduceReplicate, Nat.reduceAdd, Nat.reduceSub, Nat.reduceMul, Nat.reduceLT, Nat.reduceLeDiff, Nat.reduceBEq, Nat.reduceEqDiff]
    refine ld_olda (by simp [add_block]) m14 id ?_
    simp (config := { maxSteps := 4000000 }) only [↓sx0, ↓sx1, ↓sx2, ↓sx3, ↓sx4, ↓sx5, ↓sx6, sx0, sx1, sx2, sx3, sx4, sx5, sx6, tf82, ev3_hold, sxo, sxc, sxp, sxq, sxr, sxs, sxl, sxm, Int.reduceBEq, Int.reduceBNe, Int.reduceLT, Int.reduceLE, Int.reduceEq, Int.reduceGT, Int.reduceGE, Int.reduceToNat, ↓reduceIte, List.reduceReplicate, Nat.reduceAdd, Nat.reduceSub, Nat.reduceMul, Nat.reduceLT, Nat.reduceLeDiff, Nat.reduceBEq, Nat.reduceEqDiff]
    refine at_1 (hrc _) slq_len hqc rfl fun ad7 => ?_
    simp (config := { maxSteps := 4000000 }) only [↓sx0, ↓sx1, ↓sx2, ↓sx3, ↓sx4, ↓sx5, ↓sx6, sx0, sx1, sx2, sx3, sx4, sx5, sx6, tf82, ev3_hold, sxo, sxc, sxp, sxq, sxr, sxs, sxl, sxm, Int.reduceBEq, Int.reduceBNe, Int.reduceLT, Int.reduceLE, Int.reduceEq, Int.reduceGT, Int.reduceGE, Int.reduceToNat, ↓reduceIte, List.reduceReplicate, Nat.reduceAdd, Nat.reduceSub, Nat.reduceMul, Nat.reduceLT, Nat.reduceLeDiff, Nat.reduceBEq, Nat.reduceEqDiff]
    refine at_1 (hqcr _) b1_len hcm rfl fun ad8 => ?_
    cases hcan : canB g.c g.b (g.t + i + 1) y with
    | false =>
      simp (config := { maxSteps := 4000000 }) only [↓sx0, ↓sx1, ↓sx2, ↓sx3, ↓sx4, ↓sx5, ↓sx6, sx0, sx1, sx2, sx3, sx4, sx5, sx6, tf82, ev3_hold, sxo, sxc, sxp, sxq, sxr, sxs, sxl, sxm, Int.reduceBEq, Int.reduceBNe, Int.reduceLT, Int.reduceLE, Int.reduceEq, Int.reduceGT, Int.reduceGE, Int.reduceToNat, ↓reduceIte, List.reduceReplicate, Nat.reduceAdd, Nat.reduceSub, Nat.reduceMul, Nat.reduceLT, Nat.reduceLeDiff, Nat.reduceBEq, Nat.reduceEqDiff, e15]
      exact ⟨(J + 1, Nz), _, rfl, HImp.refl _ _, ⟨by simp only []; omega, (hNz.skip (S := S) hy (fun h => absurd h (by rw [hcan]; exact Bool.false_ne_true))).mono hdn, rfl⟩, by simp only []; omega⟩
    | true =>
    simp (config := { maxSteps := 4000000 }) only [↓sx0, ↓sx1, ↓sx2, ↓sx3, ↓sx4, ↓sx5, ↓sx6, sx0, sx1, sx2, sx3, sx4, sx5, sx6, tf82, ev3_hold, sxo, sxc, sxp, sxq, sxr, sxs, sxl, sxm, Int.reduceBEq, Int.reduceBNe, Int.reduceLT, Int.reduceLE, Int.reduceEq, Int.reduceGT, Int.reduceGE, Int.reduceToNat, ↓reduceIte, List.reduceReplicate, Nat.reduceAdd, Nat.reduceSub, Nat.reduceMul, Nat.reduceLT, Nat.reduceLeDiff, Nat.reduceBEq, Nat.reduceEqDiff]
    refine ld_row (E := 162) (o := 0) (List.mem_cons_of_mem _ (List.mem_cons_of_mem _ (List.mem_append_left _ hrow3))) frc_len (hNzs.2 _ hst1) hcur (show (frc _)[0]? = some (I (en Nz S1 y).1) from rfl) ?_
    by_cases hlt : B + g.wg X y < (en Nz S1 y).1
    · have p3 : (B + g.wg X y < (en Nz S1 y).1) = True := eq_true hlt
      simp (config := { maxSteps := 4000000 }) only [↓sx0, ↓sx1, ↓sx2, ↓sx3, ↓sx4, ↓sx5, ↓sx6, sx0, sx1, sx2, sx3, sx4, sx5, sx6, tf82, ev3_hold, sxo, sxc, sxp, sxq, sxr, sxs, sxl, sxm, Int.reduceBEq, Int.reduceBNe, Int.reduceLT, Int.reduceLE, Int.reduceEq, Int.reduceGT, Int.reduceGE, Int.reduceToNat, ↓reduceIte, List.reduceReplicate, Nat.reduceAdd, Nat.reduceSub, Nat.reduceMul, Nat.reduceLT, Nat.reduceLeDiff, Nat.reduceBEq, Nat.reduceEqDiff, p3]
      refine wr_at (A := HO.cells b5 162 [I B, I pc, I pz] :: HO.row (.slice (some ⟨b3, 0, none⟩) (g.ts + 2) (g.ts + 2)) 163 1 (cat slq (an3.map (aq g.c.depth.length))) :: FR g.c.depth.length (an3.take S1) (Nz.take S1)) (B := FR g.c.depth.length (an3.drop (S1 + 1)) (Nz.drop (S1 + 1)) ++ T0) (f := frc) (l := Nz.getD S1 []) (u := ((B + g.wg X y, (X : Int), (S : Int)) : Frm)) (by rw [hF3, List.append_assoc]; rfl) frc_len (hNzs.2 _ hst1) (by rw [hNzs.2 _ hst1]; exact hyl) ?_
      simp (config := { maxSteps := 4000000 }) only [↓sx0, ↓sx1, ↓sx2, ↓sx3, ↓sx4, ↓sx5, ↓sx6, sx0, sx1, sx2, sx3, sx4, sx5, sx6, tf82, ev3_hold, sxo, sxc, sxp, sxq, sxr, sxs, sxl, sxm, Int.reduceBEq, Int.reduceBNe, Int.reduceLT, Int.reduceLE, Int.reduceEq, Int.reduceGT, Int.reduceGE, Int.reduceToNat, ↓reduceIte, List.reduceReplicate, Nat.reduceAdd, Nat.reduceSub, Nat.reduceMul, Nat.reduceLT, Nat.reduceLeDiff, Nat.reduceBEq, Nat.reduceEqDiff, e15]
      refine ⟨(J + 1, setE Nz S1 y (B + g.wg X y, (X : Int), (S : Int))), _, rfl, ?_, ⟨by simp only []; omega, (hbet hcan hlt).mono hdn, rfl⟩, by simp only []; omega⟩
      unfold setE
      rw [FR_set (by rw [han3, hNzs.1]) (by omega), hS1a]
      rw [List.append_assoc]
      exact HImp.refl _ _
    · have p3 : (B + g.wg X y < (en Nz S1 y).1) = False := eq_false hlt
      simp (config := { maxSteps := 4000000 }) only [↓sx0, ↓sx1, ↓sx2, ↓sx3, ↓sx4, ↓sx5, ↓sx6, sx0, sx1, sx2, sx3, sx4, sx5, sx6, tf82, ev3_hold, sxo, sxc, sxp, sxq, sxr, sxs, sxl, sxm, Int.reduceBEq, Int.reduceBNe, Int.reduceLT, Int.reduceLE, Int.reduceEq, Int.reduceGT, Int.reduceGE, Int.reduceToNat, ↓reduceIte, List.reduceReplicate, Nat.reduceAdd, Nat.reduceSub, Nat.reduceMul, Nat.reduceLT, Nat.reduceLeDiff, Nat.reduceBEq, Nat.reduceEqDiff, p3, e15]
      exact ⟨(J + 1, Nz), _, rfl, HImp.refl _ _, ⟨by simp only []; omega, (hNz.skip (S := S) hy (fun _ => by rw [hS1, he]; simp only []; omega)).mono hdn, rfl⟩, by simp only []; omega⟩
end Go.Proofs.YtcnlbnccbnapbaaDoor

