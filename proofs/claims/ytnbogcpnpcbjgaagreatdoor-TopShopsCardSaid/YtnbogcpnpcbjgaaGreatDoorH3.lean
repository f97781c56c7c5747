/- Parts of a proof: the symbolic walk and what it shows of single functions. -/
import Derived.Test.YtnbogcpnpcbjgaaGreatDoorH2
set_option linter.all false
namespace Go.Proofs.YtnbogcpnpcbjgaaGreatDoor
open Go.RowKit Go.SX Go.WideMaps
set_option maxRecDepth 20000
set_option maxHeartbeats 0
set_option linter.unusedSimpArgs false
set_option linter.unusedVariables false
def pl72_3 : Plan := (ones [0, 1, 2, 3, 4, 5, 6, 7, 8, 9, 10] .fin)
def pl72_9 : Plan := (ones [0, 1, 2, 3, 4, 5, 6, 7, 8, 9, 10, 11, 12] .fin)
def pl72_10 : Plan := (ones [0, 1, 2, 3, 4, 5, 6, 7, 8, 9, 10, 11, 12] .fin)
def pl72_14 : Plan := (ones [0, 1, 2, 3, 4, 5, 6, 7, 8, 9, 10, 11, 12, 13, 14, 15, 16, 17, 18, 19, 20, 21, 22, 23, 24, 25, 26, 27] .fin)
def pl72_18 : Plan := (ones [0, 1, 2, 3, 4, 5, 6, 7, 8, 9, 10, 11, 12, 13, 14, 15, 16] (.mu 17 (ones [18] .fin)))
def pl72_24 : Plan := (.ld 0 (ones [1, 2] (.ld 3 (ones [5] (.alt 4 (.mu 6 (ones [7] .fin)) (.am 6 (ones [4, 7] .fin) .no))))))
def pl72_25 : Plan := (ones [0, 1, 2, 3, 4, 5, 6] .fin)
def pl72 : List (Nat × Plan) := [(3, pl72_3), (9, pl72_9), (10, pl72_10), (14, pl72_14), (18, pl72_18), (24, pl72_24), (25, pl72_25)]
theorem pl72_lk : (lkO 3 pl72 = some pl72_3) ∧ (lkO 9 pl72 = some pl72_9) ∧ (lkO 10 pl72 = some pl72_10) ∧ (lkO 14 pl72 = some pl72_14) ∧ (lkO 18 pl72 = some pl72_18) ∧ (lkO 24 pl72 = some pl72_24) ∧ (lkO 25 pl72 = some pl72_25) := ⟨rfl, rfl, rfl, rfl, rfl, rfl, rfl⟩
theorem dstep_fn (w : World) (hw : Ways w) (bs mn ms : Nat) (hmm : mn ≠ ms) (d : Drf) (sD sT sS vZ vC vW : Value) (hs : SdOk w bs mn ms d sD sT sS vZ vC vW) (hok : d.c.ok) (S : List HO) (hS : NrS d.c mn S) (hSok : ∀ h ∈ S, h.ok w) (cks : Nat) (hms : w.heap[ms]? = some (.map #[] cks)) (k t lw : Nat) (hk : k < d.c.depth.length) (ht : t < d.c.tide.length) (hlw : lw ≤ 8) (z : Nat) (hz : d.zones[k]? = some (z : Int)) (cl : List Psh) (hcl : d.cur[z]? = some cl) (cur wnd : Psh) (hcur : cl[t]? = some cur) (hwnd : d.wind[t]? = some wnd) (hco : cur.ok) (hwo : wnd.ok) (lo hi : Int) (hp : d.c.tide[t]? = some (lo, hi)) :
    SX.Fn Tryz.prog 72 [.pointer (some ⟨bs, 0, none⟩), .agg #[I k, I t, I lw]] w (fpsx (HO.obj ms (.map #[] cks) :: S)) fun q N => ∃ a cp, q = .slice a (stpA d cur wnd t k lw lo hi).length cp ∧ HO.row (.slice a (stpA d cur wnd t k lw lo hi).length cp) 3 1 (ints (stpA d cur wnd t k lw lo hi)) ∈ N := by
  have hfx : ∀ S', NrS d.c mn S' → ∀ b, fps S' b → fpsx S' b := fun S' h b hb => by
    obtain ⟨es', ck', rfl, _⟩ := h
    exact fps_obj.2.2 (fps_obj.1.1 hb)
  have hold : (∀ h ∈ HO.obj ms (.map #[] cks) :: S, h.ok w) ∧ (∀ h ∈ HO.obj ms (.map #[] cks) :: S, ∀ b, h.fp b → fpsx (HO.obj ms (.map #[] cks) :: S) b) ∧ (HO.obj ms (.map #[] cks) :: S).Pairwise Apart := by
    refine old_of (fun h hh => ?_) (fun h hh b hb => ?_) ?_
    · rcases List.mem_cons.1 hh with rfl | hh
      · exact hms
      · exact hSok h hh
    · rcases List.mem_cons.1 hh with rfl | hh
      · exact hb
      · exact (NrS.shared d.c mn).fx S hS h hh b hb
    · obtain ⟨es', ck', rfl, _⟩ := hS
      refine List.pairwise_cons.2 ⟨fun h hh b hb => ?_, List.pairwise_singleton _ _⟩
      rw [List.mem_singleton] at hh
      subst hh
      have hb : b = ms := hb
      subst hb
      exact fun hb' => absurd hb'.symm hmm
  have hX : Maps w (fpsx (HO.obj ms (.map #[] cks) :: S)) := by
    rintro b ⟨h, hh, hb⟩
    rcases List.mem_cons.1 hh with rfl | hh
    · have hb : b = ms := hb
      subst hb
      exact ⟨_, _, hms⟩
    · obtain ⟨es', ck', rfl, _⟩ := hS
      have hm := hSok _ (List.mem_singleton.2 rfl)
      rw [List.mem_singleton] at hh
      subst hh
      have hb : b = mn := hb
      subst hb
      exact ⟨_, _, hm⟩
  obtain ⟨X0, hX0⟩ : ∃ X0, fpsx (HO.obj ms (.map #[] cks) :: S) = X0 := ⟨_, rfl⟩
  rw [hX0] at hold hX ⊢
  obtain ⟨sD', sT', sS', he, hsD, hsT, hsS⟩ := hs.toC.ch
  injection he with he
  injection he with he
  simp only [List.cons.injEq, true_and, and_true] at he
  obtain ⟨rfl, rfl, rfl⟩ := he
  obtain ⟨aT, nT, cT, rfl⟩ := hsT.shape
  have hnT := hsT.le spc_len (by omega)
  have hrT := fun H => hX.rdv hsT H
  obtain ⟨aZ, nZ, cZ, rfl⟩ := hs.zo.shape
  have hrZ := fun H => hX.rdv hs.zo H
  obtain ⟨ps, aC, cC, rfl, hpl, hsC, hCt⟩ := hs.cu.at
  have hrC := fun H => hX.rdv hsC H
  obtain ⟨aL, cL, hpz, hsL⟩ := hCt z cl hcl
  have hrL := fun H => hX.rdv hsL H
  obtain ⟨aW, nW, cW, rfl⟩ := hs.wi.shape
  have hrW := fun H => hX.rdv hs.wi H
  have hcel := hs.toC.cel
  have hnX : ∀ (i : Nat) v, w.cell? ⟨bs, i, none⟩ = some v → ¬ X0 bs := fun i v h => hX.not h
  have hbX : ¬ X0 bs := hnX 0 _ (hcel 0 _ rfl)
  have hpb := hok.2.2.2.2.2.2.1 _ (List.mem_of_getElem? hp)
  simp only [] at hpb
  obtain ⟨n, hn⟩ : ∃ n : Nat, (n : Int) = hi - lo + 1 := ⟨(hi - lo + 1).toNat, by omega⟩
  have hst : stpA d cur wnd t k lw lo hi = Lib.compact (srtL (stpN d cur wnd t k lw lo n)) := by
    unfold stpA
    rw [show (hi - lo + 1).toNat = n by omega]
  obtain ⟨R, hR⟩ : ∃ R, stpA d cur wnd t k lw lo hi = R := ⟨_, rfl⟩
  rw [hR] at hst ⊢
  obtain ⟨LN, hLN⟩ : ∃ LN : Nat → List Int, ∀ i, stpN d cur wnd t k lw lo i = LN i := ⟨_, fun _ => rfl⟩
  have hL0 : LN 0 = [] := (hLN 0).symm
  have hLs : ∀ i, LN (i + 1) = stpH d cur wnd t k lw (LN i) (lo + i) := fun i => by rw [← hLN, ← hLN]; rfl
  have hLl : ∀ i, i ≤ n → (LN i).length ≤ 200000 := fun i hi => by
    rw [← hLN]
    have := stpN_len d cur wnd hco hwo t k lw lo i
    omega
  rw [hLN] at hst
  have hdry := fun (i : Nat) (hi : i < n) (H : List HO) w' (hp : Hp ⟨w, X0⟩ H w') => dry_fn w' bs mn ms d sD (.slice aT nT cT) sS _ _ _ (hX.sd hp.ext hs.toC) hok k t (lo + (i : Nat)) hk ht (by omega)
  have hpk := fun (i : Nat) (hi : i < n) => seeds_pack d cur wnd hok hco hwo t (lo + (i : Nat)) k lw hk
  have dn : ∀ (g : Nat) (xs : List Value), det0 g xs = none := fun _ _ => rfl
  have c3 := hcel 3 _ rfl
  have c5 := hcel 5 _ rfl
  have c6 := hcel 6 _ rfl
  have c7 := hcel 7 _ rfl
  have c8 := hcel 8 _ rfl
  have e1 : ((k : Int) = -1) = False := eq_false (by omega)
  have hkey := stay_key (a := k) (b := t) (c := lw) (by have := (small_of hok).1; omega) (by have := hok.2.2.2.1; omega) (by omega)
  refine walk [3, 10] pl72 (det0_ok _ _) Tryz.func72 rfl Tryz.ntmps72 res72 (by kernel_rfl) (H0 := HO.obj ms (.map #[] cks) :: S) hold ?_
  simp (config := { maxSteps := 4000000 }) only [↓sx0, ↓sx1, ↓sx2, ↓sx3, ↓sx4, ↓sx5, ↓sx6, sx0, sx1, sx2, sx3, sx4, sx5, sx6, tf72, ev3_hold, sxo, sxc, sxp, sxq, sxr, sxs, sxl, sxm, simprocAttr]
  intro b3
  refine ld_cell List.mem_cons_self rfl ?_
  simp (config := { maxSteps := 4000000 }) only [↓sx0, ↓sx1, ↓sx2, ↓sx3, ↓sx4, ↓sx5, ↓sx6, sx0, sx1, sx2, sx3, sx4, sx5, sx6, tf72, ev3_hold, sxo, sxc, sxp, sxq, sxr, sxs, sxl, sxm, simprocAttr, e1, pl72_lk, pl72_3]
  refine ld_olda (by simp [add_block]) c8 hbX ?_
  simp (config := { maxSteps := 4000000 }) only [↓sx0, ↓sx1, ↓sx2, ↓sx3, ↓sx4, ↓sx5, ↓sx6, sx0, sx1, sx2, sx3, sx4, sx5, sx6, tf72, ev3_hold, sxo, sxc, sxp, sxq, sxr, sxs, sxl, sxm, simprocAttr]
  refine ld_cells [I k, I t, I lw] List.mem_cons_self rfl rfl ?_
  simp (config := { maxSteps := 4000000 }) only [↓sx0, ↓sx1, ↓sx2, ↓sx3, ↓sx4, ↓sx5, ↓sx6, sx0, sx1, sx2, sx3, sx4, sx5, sx6, tf72, ev3_hold, sxo, sxc, sxp, sxq, sxr, sxs, sxl, sxm, simprocAttr]
  refine lk_W steps_map stay_law hkey (KeysOk.nil _ _) zero_ints (fun e he => by simp at he) (List.mem_cons_of_mem _ List.mem_cons_self) (fun _ => ?_) (fun e he => by simp at he)
  simp (config := { maxSteps := 4000000 }) only [↓sx0, ↓sx1, ↓sx2, ↓sx3, ↓sx4, ↓sx5, ↓sx6, sx0, sx1, sx2, sx3, sx4, sx5, sx6, tf72, ev3_hold, sxo, sxc, sxp, sxq, sxr, sxs, sxl, sxm, simprocAttr, pl72_lk, pl72_9]
  refine ld_olda (by simp [add_block]) c3 hbX ?_
  simp (config := { maxSteps := 4000000 }) only [↓sx0, ↓sx1, ↓sx2, ↓sx3, ↓sx4, ↓sx5, ↓sx6, sx0, sx1, sx2, sx3, sx4, sx5, sx6, tf72, ev3_hold, sxo, sxc, sxp, sxq, sxr, sxs, sxl, sxm, simprocAttr]
  refine ld_cella List.mem_cons_self rfl ?_
  simp (config := { maxSteps := 4000000 }) only [↓sx0, ↓sx1, ↓sx2, ↓sx3, ↓sx4, ↓sx5, ↓sx6, sx0, sx1, sx2, sx3, sx4, sx5, sx6, tf72, ev3_hold, sxo, sxc, sxp, sxq, sxr, sxs, sxl, sxm, simprocAttr]
  refine at_f (hrT _) spc_len hp (o := 0) (x := I lo) rfl fun ad1 => ?_
  simp (config := { maxSteps := 4000000 }) only [↓sx0, ↓sx1, ↓sx2, ↓sx3, ↓sx4, ↓sx5, ↓sx6, sx0, sx1, sx2, sx3, sx4, sx5, sx6, tf72, ev3_hold, sxo, sxc, sxp, sxq, sxr, sxs, sxl, sxm, simprocAttr]
  intro b10
  refine wr_cell (A := []) rfl (by simp) ?_
  simp (config := { maxSteps := 4000000 }) only [↓sx0, ↓sx1, ↓sx2, ↓sx3, ↓sx4, ↓sx5, ↓sx6, sx0, sx1, sx2, sx3, sx4, sx5, sx6, tf72, ev3_hold, sxo, sxc, sxp, sxq, sxr, sxs, sxl, sxm, simprocAttr]
  refine loop_boxH (S ++ [HO.row (.slice none 0 0) 3 1 (ints []), .cells b10 3 [I lo], .cells b3 116 [I k, I t, I lw], .obj ms (.map #[] cks)]) ?_ [(10, 11), (39, 122)] (fun q : Nat × Nat × Option Addr × Nat => [(10, .pointer (some ⟨q.2.1, 0, none⟩))])
    (fun q => [(108, [.pointer (some ⟨bs, 0, none⟩)]), (107, [.func (.func 111) #[] #[.pointer (some ⟨b3, 0, none⟩)]]), (22, [.slice q.2.2.1 (LN q.1).length q.2.2.2])])
    (fun q H1 => q.1 ≤ n ∧ ∃ S', NrS d.c mn S' ∧ H1 = S' ++ [HO.row (.slice q.2.2.1 (LN q.1).length q.2.2.2) 3 1 (ints (LN q.1)), .cells q.2.1 3 [I (lo + (q.1 : Nat))], .cells b3 116 [I k, I t, I lw], .obj ms (.map #[] cks)])
    (fun q => n - q.1) (0, b10, none, 0) ?_ ?_ (fun q => rfl) ⟨Nat.zero_le _, S, hS, ?_⟩ ?_
  · refine (HImp.nilRow _ _ 3 1).trans (HImp.perm ?_)
    exact (List.perm_append_comm (l₁ := [_, _, _, _]) (l₂ := S))
  · simp (config := { maxSteps := 4000000 }) only [↓sx0, ↓sx1, ↓sx2, ↓sx3, ↓sx4, ↓sx5, ↓sx6, sx0, sx1, sx2, sx3, sx4, sx5, sx6, tf72, ev3_hold, sxo, sxc, sxp, sxq, sxr, sxs, sxl, sxm, simprocAttr]
    try simp
  · simp [hL0]
  · simp [hL0]
  rintro ⟨i, b0, a, cp⟩ H1 g1 ⟨hi', S1, hS1, rfl⟩
  simp only [] at hi'
  have hlm := Nat.le_trans (hLl i hi') (show 200000 ≤ 1000000 by omega)
  by_cases hin : i = n
  · have e7 : (lo + (i : Int) ≤ hi) = False := eq_false (by omega)
    refine ⟨?_⟩
    simp (config := { maxSteps := 4000000 }) only [↓sx0, ↓sx1, ↓sx2, ↓sx3, ↓sx4, ↓sx5, ↓sx6, sx0, sx1, sx2, sx3, sx4, sx5, sx6, tf72, ev3_hold, sxo, sxc, sxp, sxq, sxr, sxs, sxl, sxm, simprocAttr, pl72_lk, pl72_10]
    refine ld_cell (T := 3) (cs := [I (lo + (i : Nat))]) (by simp) rfl ?_
    simp (config := { maxSteps := 4000000 }) only [↓sx0, ↓sx1, ↓sx2, ↓sx3, ↓sx4, ↓sx5, ↓sx6, sx0, sx1, sx2, sx3, sx4, sx5, sx6, tf72, ev3_hold, sxo, sxc, sxp, sxq, sxr, sxs, sxl, sxm, simprocAttr]
    refine ld_olda (by simp [add_block]) c3 hbX ?_
    simp (config := { maxSteps := 4000000 }) only [↓sx0, ↓sx1, ↓sx2, ↓sx3, ↓sx4, ↓sx5, ↓sx6, sx0, sx1, sx2, sx3, sx4, sx5, sx6, tf72, ev3_hold, sxo, sxc, sxp, sxq, sxr, sxs, sxl, sxm, simprocAttr]
    refine ld_cella (T := 116) (cs := [I k, I t, I lw]) (by simp) rfl ?_
    simp (config := { maxSteps := 4000000 }) only [↓sx0, ↓sx1, ↓sx2, ↓sx3, ↓sx4, ↓sx5, ↓sx6, sx0, sx1, sx2, sx3, sx4, sx5, sx6, tf72, ev3_hold, sxo, sxc, sxp, sxq, sxr, sxs, sxl, sxm, simprocAttr]
    refine at_f (hrT _) spc_len hp (o := 1) (x := I hi) rfl fun ad1 => ?_
    simp (config := { maxSteps := 4000000 }) only [↓sx0, ↓sx1, ↓sx2, ↓sx3, ↓sx4, ↓sx5, ↓sx6, sx0, sx1, sx2, sx3, sx4, sx5, sx6, tf72, ev3_hold, sxo, sxc, sxp, sxq, sxr, sxs, sxl, sxm, simprocAttr, e7, dn]
    refine CallOb.mutH (A := [HO.row (.slice a (LN i).length cp) 3 1 (ints (LN i))]) (B := S1 ++ [.cells b0 3 [I (lo + (i : Nat))], .cells b3 116 [I k, I t, I lw], .obj ms (.map #[] cks)]) (HImp.perm List.perm_middle) (fun b hb => ?_) (fun w' hp' => sort_fn w' _ _ _ _ hlm (hp'.ok _ (by simp))) ?_
    · obtain ⟨h, hh, hb⟩ := hb
      rw [List.mem_singleton] at hh
      subst hh
      exact ⟨_, List.mem_singleton.2 rfl, hb⟩
    rintro q N ⟨rfl, hN⟩
    refine ⟨?_⟩
    simp (config := { maxSteps := 4000000 }) only [↓sx0, ↓sx1, ↓sx2, ↓sx3, ↓sx4, ↓sx5, ↓sx6, sx0, sx1, sx2, sx3, sx4, sx5, sx6, tf72, ev3_hold, sxo, sxc, sxp, sxq, sxr, sxs, sxl, sxm, simprocAttr, pl72_lk, pl72_24]
    subst hin
    refine ld_olda (by simp [add_block]) c8 hbX ?_
    simp (config := { maxSteps := 4000000 }) only [↓sx0, ↓sx1, ↓sx2, ↓sx3, ↓sx4, ↓sx5, ↓sx6, sx0, sx1, sx2, sx3, sx4, sx5, sx6, tf72, ev3_hold, sxo, sxc, sxp, sxq, sxr, sxs, sxl, sxm, simprocAttr, dn]
    refine ⟨?_, ?_⟩
    refine ld_cells (T := 116) (cs := [I k, I t, I lw]) [I k, I t, I lw] (by simp) rfl rfl ?_
    simp (config := { maxSteps := 4000000 }) only [↓sx0, ↓sx1, ↓sx2, ↓sx3, ↓sx4, ↓sx5, ↓sx6, sx0, sx1, sx2, sx3, sx4, sx5, sx6, tf72, ev3_hold, sxo, sxc, sxp, sxq, sxr, sxs, sxl, sxm, simprocAttr, dn]
    refine CallOb.mutH (A := [HO.row (.slice a (LN i).length cp) 3 1 (ints (srtL (LN i)))]) (B := S1 ++ [.cells b0 3 [I (lo + (i : Nat))], .cells b3 116 [I k, I t, I lw], .obj ms (.map #[] cks)]) (HImp.append (HImp.pick hN)) (fun b hb => ?_) (fun w' hp' => by
      have := compact_fn w' a (LN i).length cp (srtL (LN i)) (by rw [srt_len]; exact hlm) (hp'.ok _ List.mem_cons_self)
      rwa [← hst] at this) ?_
    · obtain ⟨h, hh, hb⟩ := hb
      rw [List.mem_singleton] at hh
      subst hh
      exact ⟨_, List.mem_singleton.2 rfl, hb⟩
    rintro q N2 ⟨rfl, hN2⟩
    refine ⟨?_⟩
    simp (config := { maxSteps := 4000000 }) only [↓sx0, ↓sx1, ↓sx2, ↓sx3, ↓sx4, ↓sx5, ↓sx6, sx0, sx1, sx2, sx3, sx4, sx5, sx6, tf72, ev3_hold, sxo, sxc, sxp, sxq, sxr, sxs, sxl, sxm, simprocAttr]
    refine ins_W (es := #[]) (c := cks) (A := N2 ++ (S1 ++ [.cells b0 3 [I (lo + (i : Nat))], .cells b3 116 [I k, I t, I lw]])) (B := []) steps_map stay_law hkey (KeysOk.nil _ _) (fun e he => by simp at he) (by simp) ?_
    simp (config := { maxSteps := 4000000 }) only [↓sx0, ↓sx1, ↓sx2, ↓sx3, ↓sx4, ↓sx5, ↓sx6, sx0, sx1, sx2, sx3, sx4, sx5, sx6, tf72, ev3_hold, sxo, sxc, sxp, sxq, sxr, sxs, sxl, sxm, simprocAttr, pl72_lk, pl72_25]
    refine ld_olda (by simp [add_block]) c8 hbX ?_
    simp (config := { maxSteps := 4000000 }) only [↓sx0, ↓sx1, ↓sx2, ↓sx3, ↓sx4, ↓sx5, ↓sx6, sx0, sx1, sx2, sx3, sx4, sx5, sx6, tf72, ev3_hold, sxo, sxc, sxp, sxq, sxr, sxs, sxl, sxm, simprocAttr]
    refine ld_cells (T := 116) (cs := [I k, I t, I lw]) [I k, I t, I lw] (by simp) rfl rfl ?_
    simp (config := { maxSteps := 4000000 }) only [↓sx0, ↓sx1, ↓sx2, ↓sx3, ↓sx4, ↓sx5, ↓sx6, sx0, sx1, sx2, sx3, sx4, sx5, sx6, tf72, ev3_hold, sxo, sxc, sxp, sxq, sxr, sxs, sxl, sxm, simprocAttr]
    refine lk_W1 (es := #[].push { key := .agg #[I k, I t, I lw], val := .slice a R.length cp, born := cks }) (c := cks + 1) (b := ms) (et := 22) (e := { key := .agg #[I k, I t, I lw], val := .slice a R.length cp, born := cks }) steps_map stay_law hkey ((KeysOk.nil _ _).push hkey) (fun e he e' he' _ => ?_) (by simp) (by simp) rfl ?_
    · simp only [Array.toList_push, List.nil_append, List.mem_singleton] at he he'
      rw [he, he']
    simp (config := { maxSteps := 4000000 }) only [↓sx0, ↓sx1, ↓sx2, ↓sx3, ↓sx4, ↓sx5, ↓sx6, sx0, sx1, sx2, sx3, sx4, sx5, sx6, tf72, ev3_hold, sxo, sxc, sxp, sxq, sxr, sxs, sxl, sxm, simprocAttr]
    exact ⟨a, cp, rfl, by simp [hN2]⟩
    refine CallOb.mutH (A := [HO.row (.slice a (LN i).length cp) 3 1 (ints (srtL (LN i)))]) (B := S1 ++ [.cells b0 3 [I (lo + (i : Nat))], .cells b3 116 [I k, I t, I lw], .obj ms (.map #[] cks)]) (HImp.append (HImp.pick hN)) (fun b hb => ?_) (fun w' hp' => by
      have := compact_fn w' a (LN i).length cp (srtL (LN i)) (by rw [srt_len]; exact hlm) (hp'.ok _ List.mem_cons_self)
      rwa [← hst] at this) ?_
    · obtain ⟨h, hh, hb⟩ := hb
      rw [List.mem_singleton] at hh
      subst hh
      exact ⟨_, List.mem_singleton.2 rfl, hb⟩
    rintro q N2 ⟨rfl, hN2⟩
    refine ⟨?_⟩
    simp (config := { maxSteps := 4000000 }) only [↓sx0, ↓sx1, ↓sx2, ↓sx3, ↓sx4, ↓sx5, ↓sx6, sx0, sx1, sx2, sx3, sx4, sx5, sx6, tf72, ev3_hold, sxo, sxc, sxp, sxq, sxr, sxs, sxl, sxm, simprocAttr]
    refine ld_cells (T := 116) (cs := [I k, I t, I lw]) [I k, I t, I lw] (by simp) rfl rfl ?_
    simp (config := { maxSteps := 4000000 }) only [↓sx0, ↓sx1, ↓sx2, ↓sx3, ↓sx4, ↓sx5, ↓sx6, sx0, sx1, sx2, sx3, sx4, sx5, sx6, tf72, ev3_hold, sxo, sxc, sxp, sxq, sxr, sxs, sxl, sxm, simprocAttr]
    refine ins_W (es := #[]) (c := cks) (A := N2 ++ (S1 ++ [.cells b0 3 [I (lo + (i : Nat))], .cells b3 116 [I k, I t, I lw]])) (B := []) steps_map stay_law hkey (KeysOk.nil _ _) (fun e he => by simp at he) (by simp) ?_
    simp (config := { maxSteps := 4000000 }) only [↓sx0, ↓sx1, ↓sx2, ↓sx3, ↓sx4, ↓sx5, ↓sx6, sx0, sx1, sx2, sx3, sx4, sx5, sx6, tf72, ev3_hold, sxo, sxc, sxp, sxq, sxr, sxs, sxl, sxm, simprocAttr, pl72_lk, pl72_25]
    refine ld_olda (by simp [add_block]) c8 hbX ?_
    simp (config := { maxSteps := 4000000 }) only [↓sx0, ↓sx1, ↓sx2, ↓sx3, ↓sx4, ↓sx5, ↓sx6, sx0, sx1, sx2, sx3, sx4, sx5, sx6, tf72, ev3_hold, sxo, sxc, sxp, sxq, sxr, sxs, sxl, sxm, simprocAttr]
    refine ld_cells (T := 116) (cs := [I k, I t, I lw]) [I k, I t, I lw] (by simp) rfl rfl ?_
    simp (config := { maxSteps := 4000000 }) only [↓sx0, ↓sx1, ↓sx2, ↓sx3, ↓sx4, ↓sx5, ↓sx6, sx0, sx1, sx2, sx3, sx4, sx5, sx6, tf72, ev3_hold, sxo, sxc, sxp, sxq, sxr, sxs, sxl, sxm, simprocAttr]
    refine lk_W1 (es := #[].push { key := .agg #[I k, I t, I lw], val := .slice a R.length cp, born := cks }) (c := cks + 1) (b := ms) (et := 22) (e := { key := .agg #[I k, I t, I lw], val := .slice a R.length cp, born := cks }) steps_map stay_law hkey ((KeysOk.nil _ _).push hkey) (fun e he e' he' _ => ?_) (by simp) (by simp) rfl ?_
    · simp only [Array.toList_push, List.nil_append, List.mem_singleton] at he he'
      rw [he, he']
    simp (config := { maxSteps := 4000000 }) only [↓sx0, ↓sx1, ↓sx2, ↓sx3, ↓sx4, ↓sx5, ↓sx6, sx0, sx1, sx2, sx3, sx4, sx5, sx6, tf72, ev3_hold, sxo, sxc, sxp, sxq, sxr, sxs, sxl, sxm, simprocAttr]
    exact ⟨a, cp, rfl, by simp [hN2]⟩
  have e7 : (lo + (i : Int) ≤ hi) = True := eq_true (by omega)
  have hdry := hdry i (by omega)
  have e8 : wr (lo + (i : Int) + 1) = lo + ((i + 1 : Nat) : Int) := (wrap_id (by omega)).trans (by omega)
  have hLs := hLs i
  unfold stpH at hLs
  cases hdb : dryB d.c k t (lo + (i : Nat)) with
  | true =>
    rw [hdb, if_pos rfl] at hLs
    simp only [hdb] at hdry
    refine ⟨?_⟩
    simp (config := { maxSteps := 4000000 }) only [↓sx0, ↓sx1, ↓sx2, ↓sx3, ↓sx4, ↓sx5, ↓sx6, sx0, sx1, sx2, sx3, sx4, sx5, sx6, tf72, ev3_hold, sxo, sxc, sxp, sxq, sxr, sxs, sxl, sxm, simprocAttr, pl72_lk, pl72_10]
    refine ld_cell (T := 3) (cs := [I (lo + (i : Nat))]) (by simp) rfl ?_
    simp (config := { maxSteps := 4000000 }) only [↓sx0, ↓sx1, ↓sx2, ↓sx3, ↓sx4, ↓sx5, ↓sx6, sx0, sx1, sx2, sx3, sx4, sx5, sx6, tf72, ev3_hold, sxo, sxc, sxp, sxq, sxr, sxs, sxl, sxm, simprocAttr]
    refine ld_olda (by simp [add_block]) c3 hbX ?_
    simp (config := { maxSteps := 4000000 }) only [↓sx0, ↓sx1, ↓sx2, ↓sx3, ↓sx4, ↓sx5, ↓sx6, sx0, sx1, sx2, sx3, sx4, sx5, sx6, tf72, ev3_hold, sxo, sxc, sxp, sxq, sxr, sxs, sxl, sxm, simprocAttr]
    refine ld_cella (T := 116) (cs := [I k, I t, I lw]) (by simp) rfl ?_
    simp (config := { maxSteps := 4000000 }) only [↓sx0, ↓sx1, ↓sx2, ↓sx3, ↓sx4, ↓sx5, ↓sx6, sx0, sx1, sx2, sx3, sx4, sx5, sx6, tf72, ev3_hold, sxo, sxc, sxp, sxq, sxr, sxs, sxl, sxm, simprocAttr]
    refine at_f (hrT _) spc_len hp (o := 1) (x := I hi) rfl fun ad1 => ?_
    simp (config := { maxSteps := 4000000 }) only [↓sx0, ↓sx1, ↓sx2, ↓sx3, ↓sx4, ↓sx5, ↓sx6, sx0, sx1, sx2, sx3, sx4, sx5, sx6, tf72, ev3_hold, sxo, sxc, sxp, sxq, sxr, sxs, sxl, sxm, simprocAttr, e7, dn]
    refine ld_cella (T := 116) (cs := [I k, I t, I lw]) (by simp) rfl ?_
    simp (config := { maxSteps := 4000000 }) only [↓sx0, ↓sx1, ↓sx2, ↓sx3, ↓sx4, ↓sx5, ↓sx6, sx0, sx1, sx2, sx3, sx4, sx5, sx6, tf72, ev3_hold, sxo, sxc, sxp, sxq, sxr, sxs, sxl, sxm, simprocAttr]
    refine ld_cella (T := 116) (cs := [I k, I t, I lw]) (by simp) rfl ?_
    simp (config := { maxSteps := 4000000 }) only [↓sx0, ↓sx1, ↓sx2, ↓sx3, ↓sx4, ↓sx5, ↓sx6, sx0, sx1, sx2, sx3, sx4, sx5, sx6, tf72, ev3_hold, sxo, sxc, sxp, sxq, sxr, sxs, sxl, sxm, simprocAttr]
    refine ld_cell (T := 3) (cs := [I (lo + (i : Nat))]) (by simp) rfl ?_
    simp (config := { maxSteps := 4000000 }) only [↓sx0, ↓sx1, ↓sx2, ↓sx3, ↓sx4, ↓sx5, ↓sx6, sx0, sx1, sx2, sx3, sx4, sx5, sx6, tf72, ev3_hold, sxo, sxc, sxp, sxq, sxr, sxs, sxl, sxm, simprocAttr, dn]
    refine CallOb.pureH (fun w' hp' => hdry _ w' hp') ?_
    rintro q N rfl
    refine ⟨?_⟩
    simp (config := { maxSteps := 4000000 }) only [↓sx0, ↓sx1, ↓sx2, ↓sx3, ↓sx4, ↓sx5, ↓sx6, sx0, sx1, sx2, sx3, sx4, sx5, sx6, tf72, ev3_hold, sxo, sxc, sxp, sxq, sxr, sxs, sxl, sxm, simprocAttr]
    refine ld_cella (T := 116) (cs := [I k, I t, I lw]) (by simp) rfl ?_
    simp (config := { maxSteps := 4000000 }) only [↓sx0, ↓sx1, ↓sx2, ↓sx3, ↓sx4, ↓sx5, ↓sx6, sx0, sx1, sx2, sx3, sx4, sx5, sx6, tf72, ev3_hold, sxo, sxc, sxp, sxq, sxr, sxs, sxl, sxm, simprocAttr]
    intro bq
    refine app_one (f := i1) (l := LN i) (k : Int) (A := N ++ (S1 ++ [.cells b0 3 [I (lo + (i : Nat))], .cells b3 116 [I k, I t, I lw], .obj ms (.map #[] cks)])) ?_ i1_len i1_one (by omega) fun a9 c9 => ?_
    · refine HImp.perm ?_
      have h1 := (List.perm_middle (a := HO.row (.slice a (LN i).length cp) 3 1 (ints (LN i))) (l₁ := N ++ S1) (l₂ := [.cells b0 3 [I (lo + (i : Nat))], .cells b3 116 [I k, I t, I lw], .obj ms (.map #[] cks)]))
      simpa only [List.append_assoc] using h1
    rw [← hLs, show (LN i).length + 1 = (LN (i + 1)).length by rw [hLs, List.length_append]; rfl]
    simp (config := { maxSteps := 4000000 }) only [↓sx0, ↓sx1, ↓sx2, ↓sx3, ↓sx4, ↓sx5, ↓sx6, sx0, sx1, sx2, sx3, sx4, sx5, sx6, tf72, ev3_hold, sxo, sxc, sxp, sxq, sxr, sxs, sxl, sxm, simprocAttr]
    refine ld_cell (T := 3) (cs := [I (lo + (i : Nat))]) (by simp) rfl ?_
    simp (config := { maxSteps := 4000000 }) only [↓sx0, ↓sx1, ↓sx2, ↓sx3, ↓sx4, ↓sx5, ↓sx6, sx0, sx1, sx2, sx3, sx4, sx5, sx6, tf72, ev3_hold, sxo, sxc, sxp, sxq, sxr, sxs, sxl, sxm, simprocAttr]
    intro bn
    refine wr_cell (A := []) rfl (by simp) ?_
    simp (config := { maxSteps := 4000000 }) only [↓sx0, ↓sx1, ↓sx2, ↓sx3, ↓sx4, ↓sx5, ↓sx6, sx0, sx1, sx2, sx3, sx4, sx5, sx6, tf72, ev3_hold, sxo, sxc, sxp, sxq, sxr, sxs, sxl, sxm, simprocAttr]
    refine ld_cell List.mem_cons_self rfl ?_
    simp (config := { maxSteps := 4000000 }) only [↓sx0, ↓sx1, ↓sx2, ↓sx3, ↓sx4, ↓sx5, ↓sx6, sx0, sx1, sx2, sx3, sx4, sx5, sx6, tf72, ev3_hold, sxo, sxc, sxp, sxq, sxr, sxs, sxl, sxm, simprocAttr, e8]
    refine wr_cell (A := []) rfl (by simp) ?_
    simp (config := { maxSteps := 4000000 }) only [↓sx0, ↓sx1, ↓sx2, ↓sx3, ↓sx4, ↓sx5, ↓sx6, sx0, sx1, sx2, sx3, sx4, sx5, sx6, tf72, ev3_hold, sxo, sxc, sxp, sxq, sxr, sxs, sxl, sxm, simprocAttr]
    exact ⟨(i + 1, bn, some a9, c9), S1 ++ [HO.row (.slice (some a9) (LN (i + 1)).length c9) 3 1 (ints (LN (i + 1))), .cells bn 3 [I (lo + ((i + 1 : Nat) : Int))], .cells b3 116 [I k, I t, I lw], .obj ms (.map #[] cks)], rfl, rfl, himp_next _ _ _ _ _ _ _ _, ⟨by simp only []; omega, S1, hS1, rfl⟩, by simp only []; omega⟩
  | false =>
    rw [hdb, if_neg (by simp)] at hLs
    simp only [hdb] at hdry
    have hpk := hpk i (by omega)
    obtain ⟨L, G, SD, hLe, hLx, hG1, hG2, hS0, hSs, hSn, hSl⟩ := hpk
    rw [← hSn] at hLs
    have hhb : -10000 ≤ lo + (i : Int) ∧ lo + (i : Int) ≤ 10000 := by omega
    refine ⟨?_⟩
    simp (config := { maxSteps := 4000000 }) only [↓sx0, ↓sx1, ↓sx2, ↓sx3, ↓sx4, ↓sx5, ↓sx6, sx0, sx1, sx2, sx3, sx4, sx5, sx6, tf72, ev3_hold, sxo, sxc, sxp, sxq, sxr, sxs, sxl, sxm, simprocAttr, pl72_lk, pl72_10]
    refine ld_cell (T := 3) (cs := [I (lo + (i : Nat))]) (by simp) rfl ?_
    simp (config := { maxSteps := 4000000 }) only [↓sx0, ↓sx1, ↓sx2, ↓sx3, ↓sx4, ↓sx5, ↓sx6, sx0, sx1, sx2, sx3, sx4, sx5, sx6, tf72, ev3_hold, sxo, sxc, sxp, sxq, sxr, sxs, sxl, sxm, simprocAttr]
    refine ld_olda (by simp [add_block]) c3 hbX ?_
    simp (config := { maxSteps := 4000000 }) only [↓sx0, ↓sx1, ↓sx2, ↓sx3, ↓sx4, ↓sx5, ↓sx6, sx0, sx1, sx2, sx3, sx4, sx5, sx6, tf72, ev3_hold, sxo, sxc, sxp, sxq, sxr, sxs, sxl, sxm, simprocAttr]
    refine ld_cella (T := 116) (cs := [I k, I t, I lw]) (by simp) rfl ?_
    simp (config := { maxSteps := 4000000 }) only [↓sx0, ↓sx1, ↓sx2, ↓sx3, ↓sx4, ↓sx5, ↓sx6, sx0, sx1, sx2, sx3, sx4, sx5, sx6, tf72, ev3_hold, sxo, sxc, sxp, sxq, sxr, sxs, sxl, sxm, simprocAttr]
    refine at_f (hrT _) spc_len hp (o := 1) (x := I hi) rfl fun ad1 => ?_
    simp (config := { maxSteps := 4000000 }) only [↓sx0, ↓sx1, ↓sx2, ↓sx3, ↓sx4, ↓sx5, ↓sx6, sx0, sx1, sx2, sx3, sx4, sx5, sx6, tf72, ev3_hold, sxo, sxc, sxp, sxq, sxr, sxs, sxl, sxm, simprocAttr, e7, dn]
    refine ld_cella (T := 116) (cs := [I k, I t, I lw]) (by simp) rfl ?_
    simp (config := { maxSteps := 4000000 }) only [↓sx0, ↓sx1, ↓sx2, ↓sx3, ↓sx4, ↓sx5, ↓sx6, sx0, sx1, sx2, sx3, sx4, sx5, sx6, tf72, ev3_hold, sxo, sxc, sxp, sxq, sxr, sxs, sxl, sxm, simprocAttr]
    refine ld_cella (T := 116) (cs := [I k, I t, I lw]) (by simp) rfl ?_
    simp (config := { maxSteps := 4000000 }) only [↓sx0, ↓sx1, ↓sx2, ↓sx3, ↓sx4, ↓sx5, ↓sx6, sx0, sx1, sx2, sx3, sx4, sx5, sx6, tf72, ev3_hold, sxo, sxc, sxp, sxq, sxr, sxs, sxl, sxm, simprocAttr]
    refine ld_cell (T := 3) (cs := [I (lo + (i : Nat))]) (by simp) rfl ?_
    simp (config := { maxSteps := 4000000 }) only [↓sx0, ↓sx1, ↓sx2, ↓sx3, ↓sx4, ↓sx5, ↓sx6, sx0, sx1, sx2, sx3, sx4, sx5, sx6, tf72, ev3_hold, sxo, sxc, sxp, sxq, sxr, sxs, sxl, sxm, simprocAttr, dn]
    refine CallOb.pureH (fun w' hp' => hdry _ w' hp') ?_
    rintro q N rfl
    refine ⟨?_⟩
    simp (config := { maxSteps := 4000000 }) only [↓sx0, ↓sx1, ↓sx2, ↓sx3, ↓sx4, ↓sx5, ↓sx6, sx0, sx1, sx2, sx3, sx4, sx5, sx6, tf72, ev3_hold, sxo, sxc, sxp, sxq, sxr, sxs, sxl, sxm, simprocAttr, pl72_lk, pl72_14]
    refine ld_cella (T := 116) (cs := [I k, I t, I lw]) (by simp) rfl ?_
    simp (config := { maxSteps := 4000000 }) only [↓sx0, ↓sx1, ↓sx2, ↓sx3, ↓sx4, ↓sx5, ↓sx6, sx0, sx1, sx2, sx3, sx4, sx5, sx6, tf72, ev3_hold, sxo, sxc, sxp, sxq, sxr, sxs, sxl, sxm, simprocAttr]
    refine ld_olda (by simp [add_block]) c6 hbX ?_
    simp (config := { maxSteps := 4000000 }) only [↓sx0, ↓sx1, ↓sx2, ↓sx3, ↓sx4, ↓sx5, ↓sx6, sx0, sx1, sx2, sx3, sx4, sx5, sx6, tf72, ev3_hold, sxo, sxc, sxp, sxq, sxr, sxs, sxl, sxm, simprocAttr]
    refine ld_olda (by simp [add_block]) c5 hbX ?_
    simp (config := { maxSteps := 4000000 }) only [↓sx0, ↓sx1, ↓sx2, ↓sx3, ↓sx4, ↓sx5, ↓sx6, sx0, sx1, sx2, sx3, sx4, sx5, sx6, tf72, ev3_hold, sxo, sxc, sxp, sxq, sxr, sxs, sxl, sxm, simprocAttr]
    refine ld_cella (T := 116) (cs := [I k, I t, I lw]) (by simp) rfl ?_
    simp (config := { maxSteps := 4000000 }) only [↓sx0, ↓sx1, ↓sx2, ↓sx3, ↓sx4, ↓sx5, ↓sx6, sx0, sx1, sx2, sx3, sx4, sx5, sx6, tf72, ev3_hold, sxo, sxc, sxp, sxq, sxr, sxs, sxl, sxm, simprocAttr]
    refine at_1 (hrZ _) i1_len hz rfl fun ad2 => ?_
    simp (config := { maxSteps := 4000000 }) only [↓sx0, ↓sx1, ↓sx2, ↓sx3, ↓sx4, ↓sx5, ↓sx6, sx0, sx1, sx2, sx3, sx4, sx5, sx6, tf72, ev3_hold, sxo, sxc, sxp, sxq, sxr, sxs, sxl, sxm, simprocAttr]
    refine at_1 (hrC _) csc_len hpz rfl fun ad3 => ?_
    simp (config := { maxSteps := 4000000 }) only [↓sx0, ↓sx1, ↓sx2, ↓sx3, ↓sx4, ↓sx5, ↓sx6, sx0, sx1, sx2, sx3, sx4, sx5, sx6, tf72, ev3_hold, sxo, sxc, sxp, sxq, sxr, sxs, sxl, sxm, simprocAttr]
    refine ld_cella (T := 116) (cs := [I k, I t, I lw]) (by simp) rfl ?_
    simp (config := { maxSteps := 4000000 }) only [↓sx0, ↓sx1, ↓sx2, ↓sx3, ↓sx4, ↓sx5, ↓sx6, sx0, sx1, sx2, sx3, sx4, sx5, sx6, tf72, ev3_hold, sxo, sxc, sxp, sxq, sxr, sxs, sxl, sxm, simprocAttr]
    refine at_n (hrL _) psc_len (by omega) hcur fun ad4 => ?_
    refine ld_cella (T := 116) (cs := [I k, I t, I lw]) (by simp) rfl ?_
    simp (config := { maxSteps := 4000000 }) only [↓sx0, ↓sx1, ↓sx2, ↓sx3, ↓sx4, ↓sx5, ↓sx6, sx0, sx1, sx2, sx3, sx4, sx5, sx6, tf72, ev3_hold, sxo, sxc, sxp, sxq, sxr, sxs, sxl, sxm, simprocAttr]
    refine ld_cell (T := 3) (cs := [I (lo + (i : Nat))]) (by simp) rfl ?_
    simp (config := { maxSteps := 4000000 }) only [↓sx0, ↓sx1, ↓sx2, ↓sx3, ↓sx4, ↓sx5, ↓sx6, sx0, sx1, sx2, sx3, sx4, sx5, sx6, tf72, ev3_hold, sxo, sxc, sxp, sxq, sxr, sxs, sxl, sxm, simprocAttr, dn]
    refine CallOb.pureH (fun w' hp' => pushes_fn w' bs k cur (.func (.func 110) #[] #[]) rfl t (lo + (i : Nat))) ?_
    rintro q N1 ⟨p1, p2, p3, p4, p5, p6, rfl, hsub⟩
    refine ⟨?_⟩
    simp (config := { maxSteps := 4000000 }) only [↓sx0, ↓sx1, ↓sx2, ↓sx3, ↓sx4, ↓sx5, ↓sx6, sx0, sx1, sx2, sx3, sx4, sx5, sx6, tf72, ev3_hold, sxo, sxc, sxp, sxq, sxr, sxs, sxl, sxm, simprocAttr]
    refine range_introSA (NrS d.c mn) (NrS.shared d.c mn) Tryz.call163 L.length (intArg L) (pus6 bs k cur (.func (.func 110) #[] #[]) t (lo + (i : Nat)) p1 p2 p3 p4 p5 p6) (S1 ++ [HO.row (.slice a (LN i).length cp) 3 1 (ints (LN i)), .cells b0 3 [I (lo + (i : Nat))], .cells b3 116 [I k, I t, I lw], .obj ms (.map #[] cks)])
      (fun j L' H' => ∃ S' a' c', NrS d.c mn S' ∧ H' = S' ++ [HO.row (.slice a' (LN i ++ SD j).length c') 3 1 (ints (LN i ++ SD j)), .cells b0 3 [I (lo + (i : Nat))], .cells b3 116 [I k, I t, I lw], .obj ms (.map #[] cks)] ∧ L' = [(108, [.pointer (some ⟨bs, 0, none⟩)]), (107, [.func (.func 111) #[] #[.pointer (some ⟨b3, 0, none⟩)]]), (22, [.slice a' (LN i ++ SD j).length c'])]) (pusR w bs sD (.slice aT nT cT) sS (fun _ => False) p1 p2 p3 p4 p5 p6) ?_ ?_ ?_ (fun w' hp' => ?_) ⟨S1, a, cp, hS1, ?_, ?_⟩ ?_ ?_ ?_
    · rintro j L0 H0 ⟨S', a', c', h1, rfl, h3⟩
      exact ⟨S', _, h1, rfl, fun S2 h2 => ⟨S2, a', c', h2, rfl, h3⟩⟩
    · exact HImp.sub (List.Sublist.append hsub (List.sublist_append_right _ _))
    · rintro b (h | h | h | h | h | h | h | h)
      · exact .inr ⟨.cells p1 139 (psc cur), by simp [pus6], h⟩
      · exact .inr ⟨.cells p2 108 [.pointer (some ⟨bs, 0, none⟩)], by simp [pus6], h⟩
      · exact .inr ⟨.cells p3 3 [I k], by simp [pus6], h⟩
      · exact .inr ⟨.cells p4 107 [.func (.func 110) #[] #[]], by simp [pus6], h⟩
      · exact .inr ⟨.cells p5 3 [I t], by simp [pus6], h⟩
      · exact .inr ⟨.cells p6 3 [I (lo + (i : Nat))], by simp [pus6], h⟩
      · exact .inl ⟨sdR_lt hw hs.toC b h, sdR_not hw hX hs.toC hok b h⟩
      · exact h.elim
    · have := pushes_it2 hw hs.toC hok hX hp'.ext hk hco ht hhb (stpI w') (fun f hf => Nat.le_trans hf (by decide)) (PusC.of (bs := bs) (k := k) (p := cur) (vf := .func (.func 110) #[] #[]) (t := t) (h := lo + (i : Nat)) hp' fun x hx => List.mem_append_left _ hx)
      rw [hLe] at this
      exact this
    · rw [hS0, List.append_nil]
    · rw [hS0, List.append_nil]
    · rintro j vs F ⟨x, _, rfl, _⟩
      rfl
    · rintro j vs F L0 H0 hj ⟨x, hx, rfl, rfl⟩ hL0 ⟨S', a', c', h1, rfl, rfl⟩
      have hSs := hSs j x hx
      have hSl := hSl j (by omega)
      have hlm2 : (LN i ++ SD j).length ≤ 900000 := by
        have := hLl i hi'
        rw [List.length_append]
        omega
      obtain ⟨M, hM⟩ : ∃ M, LN i ++ SD j = M := ⟨_, rfl⟩
      rw [hSs, ← List.append_assoc]
      rw [hM] at hlm2
      rw [hM]
      rcases hLx j x hx with rfl | ⟨y, rfl, hy⟩
      · rw [hG1]
        refine ⟨?_⟩
        simp (config := { maxSteps := 4000000 }) only [↓sx0, ↓sx1, ↓sx2, ↓sx3, ↓sx4, ↓sx5, ↓sx6, sx0, sx1, sx2, sx3, sx4, sx5, sx6, tf72, ev3_hold, sxo, sxc, sxp, sxq, sxr, sxs, sxl, sxm, simprocAttr]
        intro bq
        refine app_one (f := i1) (l := M) (-1 : Int) (A := S' ++ [.cells b0 3 [I (lo + (i : Nat))], .cells b3 116 [I k, I t, I lw], .obj ms (.map #[] cks)]) (HImp.perm List.perm_middle) i1_len i1_one (by omega) fun a9 c9 => ?_
        rw [show M.length + 1 = (M ++ [(-1 : Int)]).length by rw [List.length_append]; rfl]
        simp (config := { maxSteps := 4000000 }) only [↓sx0, ↓sx1, ↓sx2, ↓sx3, ↓sx4, ↓sx5, ↓sx6, sx0, sx1, sx2, sx3, sx4, sx5, sx6, tf72, ev3_hold, sxo, sxc, sxp, sxq, sxr, sxs, sxl, sxm, simprocAttr]
        exact ⟨_, HImp.perm List.perm_middle.symm, S', some a9, c9, h1, rfl, rfl⟩
      · rw [← hG2]
        have f1 : ((y : Int) = -1) = False := eq_false (by omega)
        refine ⟨?_⟩
        simp (config := { maxSteps := 4000000 }) only [↓sx0, ↓sx1, ↓sx2, ↓sx3, ↓sx4, ↓sx5, ↓sx6, sx0, sx1, sx2, sx3, sx4, sx5, sx6, tf72, ev3_hold, sxo, sxc, sxp, sxq, sxr, sxs, sxl, sxm, simprocAttr, f1, pl72_lk, pl72_18]
        refine ld_olda (by simp [add_block]) c7 hbX ?_
        simp (config := { maxSteps := 4000000 }) only [↓sx0, ↓sx1, ↓sx2, ↓sx3, ↓sx4, ↓sx5, ↓sx6, sx0, sx1, sx2, sx3, sx4, sx5, sx6, tf72, ev3_hold, sxo, sxc, sxp, sxq, sxr, sxs, sxl, sxm, simprocAttr]
        refine ld_cella (T := 116) (cs := [I k, I t, I lw]) (by simp) rfl ?_
        simp (config := { maxSteps := 4000000 }) only [↓sx0, ↓sx1, ↓sx2, ↓sx3, ↓sx4, ↓sx5, ↓sx6, sx0, sx1, sx2, sx3, sx4, sx5, sx6, tf72, ev3_hold, sxo, sxc, sxp, sxq, sxr, sxs, sxl, sxm, simprocAttr]
        refine at_n (hrW _) psc_len (by omega) hwnd fun ad4 => ?_
        simp (config := { maxSteps := 4000000 }) only [↓sx0, ↓sx1, ↓sx2, ↓sx3, ↓sx4, ↓sx5, ↓sx6, sx0, sx1, sx2, sx3, sx4, sx5, sx6, tf72, ev3_hold, sxo, sxc, sxp, sxq, sxr, sxs, sxl, sxm, simprocAttr]
        refine ld_cella (T := 116) (cs := [I k, I t, I lw]) (by simp) rfl ?_
        simp (config := { maxSteps := 4000000 }) only [↓sx0, ↓sx1, ↓sx2, ↓sx3, ↓sx4, ↓sx5, ↓sx6, sx0, sx1, sx2, sx3, sx4, sx5, sx6, tf72, ev3_hold, sxo, sxc, sxp, sxq, sxr, sxs, sxl, sxm, simprocAttr]
        refine ld_cell (T := 3) (cs := [I (lo + (i : Nat))]) (by simp) rfl ?_
        simp (config := { maxSteps := 4000000 }) only [↓sx0, ↓sx1, ↓sx2, ↓sx3, ↓sx4, ↓sx5, ↓sx6, sx0, sx1, sx2, sx3, sx4, sx5, sx6, tf72, ev3_hold, sxo, sxc, sxp, sxq, sxr, sxs, sxl, sxm, simprocAttr, dn]
        refine CallOb.pureH (fun w' hp' => pushes_fn w' bs y wnd (lwyF b3) rfl t (lo + (i : Nat))) ?_
        rintro q N2 ⟨r1, r2, r3, r4, r5, r6, rfl, hsub2⟩
        refine ⟨?_⟩
        simp (config := { maxSteps := 4000000 }) only [↓sx0, ↓sx1, ↓sx2, ↓sx3, ↓sx4, ↓sx5, ↓sx6, sx0, sx1, sx2, sx3, sx4, sx5, sx6, tf72, ev3_hold, sxo, sxc, sxp, sxq, sxr, sxs, sxl, sxm, simprocAttr, dn]
        refine CallOb.mutH (himp_app _ _ _ _ _ _ hsub2) (fps_row h1 _ _ _ _) (fun w' hp' => app_push hX hw hs.toC hok hy ht hhb hwo hlw h1 rfl hlm2 hp' (fun x hx => List.mem_append_left _ hx) (k := k) (by simp)) ?_
        rintro q N3 ⟨a9, c9, S2, rfl, h2, hsub3⟩
        refine ⟨?_⟩
        simp (config := { maxSteps := 4000000 }) only [↓sx0, ↓sx1, ↓sx2, ↓sx3, ↓sx4, ↓sx5, ↓sx6, sx0, sx1, sx2, sx3, sx4, sx5, sx6, tf72, ev3_hold, sxo, sxc, sxp, sxq, sxr, sxs, sxl, sxm, simprocAttr]
        exact ⟨_, himp_end _ _ _ _ _ _ hsub3, S2, a9, c9, h2, rfl, rfl⟩
    · rintro L0 H0 hL0 ⟨S', a', c', h1, rfl, rfl⟩
      have hlm3 : (LN i ++ SD L.length).length ≤ 1000000 := by
        have := hLl i hi'
        have := hSl L.length (Nat.le_refl _)
        rw [List.length_append]
        omega
      obtain ⟨M, hM⟩ : ∃ M, LN i ++ SD L.length = M := ⟨_, rfl⟩
      rw [hM] at hlm3 hLs
      rw [hM]
      refine ⟨?_⟩
      simp (config := { maxSteps := 4000000 }) only [↓sx0, ↓sx1, ↓sx2, ↓sx3, ↓sx4, ↓sx5, ↓sx6, sx0, sx1, sx2, sx3, sx4, sx5, sx6, tf72, ev3_hold, sxo, sxc, sxp, sxq, sxr, sxs, sxl, sxm, simprocAttr, dn]
      refine CallOb.mutH (A := [HO.row (.slice a' M.length c') 3 1 (ints M)]) (B := S' ++ [.cells b0 3 [I (lo + (i : Nat))], .cells b3 116 [I k, I t, I lw], .obj ms (.map #[] cks)]) (HImp.perm List.perm_middle) (fps_row1 _ _ _ _) (fun w' hp' => sort_fn w' _ _ _ _ hlm3 (hp'.ok _ (by simp))) ?_
      rintro q N3 ⟨rfl, hN3⟩
      refine ⟨?_⟩
      simp (config := { maxSteps := 4000000 }) only [↓sx0, ↓sx1, ↓sx2, ↓sx3, ↓sx4, ↓sx5, ↓sx6, sx0, sx1, sx2, sx3, sx4, sx5, sx6, tf72, ev3_hold, sxo, sxc, sxp, sxq, sxr, sxs, sxl, sxm, simprocAttr, dn]
      refine CallOb.mutH (A := [HO.row (.slice a' M.length c') 3 1 (ints (srtL M))]) (B := S' ++ [.cells b0 3 [I (lo + (i : Nat))], .cells b3 116 [I k, I t, I lw], .obj ms (.map #[] cks)]) (HImp.append (HImp.pick hN3)) (fps_row1 _ _ _ _) (fun w' hp' => by
        have := compact_fn w' a' M.length c' (srtL M) (by rw [srt_len]; exact hlm3) (hp'.ok _ List.mem_cons_self)
        rwa [← hLs] at this) ?_
      rintro q N4 ⟨rfl, hN4⟩
      refine ⟨?_⟩
      simp (config := { maxSteps := 4000000 }) only [↓sx0, ↓sx1, ↓sx2, ↓sx3, ↓sx4, ↓sx5, ↓sx6, sx0, sx1, sx2, sx3, sx4, sx5, sx6, tf72, ev3_hold, sxo, sxc, sxp, sxq, sxr, sxs, sxl, sxm, simprocAttr]
      refine ld_cell (T := 3) (cs := [I (lo + (i : Nat))]) (by simp) rfl ?_
      simp (config := { maxSteps := 4000000 }) only [↓sx0, ↓sx1, ↓sx2, ↓sx3, ↓sx4, ↓sx5, ↓sx6, sx0, sx1, sx2, sx3, sx4, sx5, sx6, tf72, ev3_hold, sxo, sxc, sxp, sxq, sxr, sxs, sxl, sxm, simprocAttr]
      intro bn
      refine wr_cell (A := []) rfl (by simp) ?_
      simp (config := { maxSteps := 4000000 }) only [↓sx0, ↓sx1, ↓sx2, ↓sx3, ↓sx4, ↓sx5, ↓sx6, sx0, sx1, sx2, sx3, sx4, sx5, sx6, tf72, ev3_hold, sxo, sxc, sxp, sxq, sxr, sxs, sxl, sxm, simprocAttr]
      refine ld_cell List.mem_cons_self rfl ?_
      simp (config := { maxSteps := 4000000 }) only [↓sx0, ↓sx1, ↓sx2, ↓sx3, ↓sx4, ↓sx5, ↓sx6, sx0, sx1, sx2, sx3, sx4, sx5, sx6, tf72, ev3_hold, sxo, sxc, sxp, sxq, sxr, sxs, sxl, sxm, simprocAttr, e8]
      refine wr_cell (A := []) rfl (by simp) ?_
      simp (config := { maxSteps := 4000000 }) only [↓sx0, ↓sx1, ↓sx2, ↓sx3, ↓sx4, ↓sx5, ↓sx6, sx0, sx1, sx2, sx3, sx4, sx5, sx6, tf72, ev3_hold, sxo, sxc, sxp, sxq, sxr, sxs, sxl, sxm, simprocAttr]
      exact ⟨(i + 1, bn, a', c'), S' ++ [HO.row (.slice a' (LN (i + 1)).length c') 3 1 (ints (LN (i + 1))), .cells bn 3 [I (lo + ((i + 1 : Nat) : Int))], .cells b3 116 [I k, I t, I lw], .obj ms (.map #[] cks)], rfl, rfl, himp_next2 _ _ _ _ _ _ _ _ hN4, ⟨by simp only []; omega, S', h1, rfl⟩, by simp only []; omega⟩
end Go.Proofs.YtnbogcpnpcbjgaaGreatDoor

