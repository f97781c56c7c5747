/- A part of a proof: the symbolic walk and what it shows of single functions. -/
import Derived.Test.YtcnjhgnlcnmagaaDoorScYe
set_option linter.all false
namespace Go.Proofs.YtcnjhgnlcnmagaaDoor
open Go.RowKit Go.SX
set_option maxRecDepth 20000
set_option maxHeartbeats 8000000
set_option linter.unusedSimpArgs false
set_option linter.unusedVariables false

/-! ### The theorem of the anchor -/

theorem veersP_least {c : Cht} {A : Anc} {K : Nat} {g : Int} {T x : Nat} {len : Int} (h : veersP c A K g T x len) : max (rch c A K T x) (A.scope * dpt c K T) ≤ len ∧ veersP c A K g T x (max (rch c A K T x) (A.scope * dpt c K T)) := by
  obtain ⟨h1, h2, h3, h4, h5⟩ := h
  refine ⟨by omega, h1, by omega, by omega, by omega, ?_⟩
  rcases h5 with h | h
  · exact .inl (by omega)
  · exact .inr fun y hy hle => h y hy (by omega)

theorem vlen_cases {c : Cht} {A : Anc} {K : Nat} {g : Int} {T x : Nat} (hp : 0 ≤ rch c A K T x) : (vlen c A K g T x = -1 ∧ ∀ len, ¬ veersP c A K g T x len) ∨
    (0 ≤ vlen c A K g T x ∧ veersP c A K g T x (vlen c A K g T x) ∧ ∀ len, len < vlen c A K g T x → ¬ veersP c A K g T x len) := by
  unfold vlen
  split
  · rename_i h
    refine .inr ⟨by omega, h, fun len hl hv => ?_⟩
    have := (veersP_least hv).1
    omega
  · rename_i h
    exact .inl ⟨rfl, fun len hv => h (veersP_least hv).2⟩

theorem towsAnchored_fn (w : World) (hw : Ways w) (v : Value) (c : Cht) (hc : ChOk w v c) (p q u z : Int) (g t ht le : Int) : SX.Fn Tryd.prog 13 [v, .agg #[I p, I q, I u, I z], .agg #[I g, I t, I ht, I le]] w (fun _ => False) fun r N => r = .bool true := by
  have hc0 := hc
  have hD := detV_ok (X := fun _ => False) hw hc (fun _ _ => id)
  obtain ⟨sD, sT, sS, rfl, hsD, hsT, hsS⟩ := hc
  have hwk : ∀ (H : List HO) w', Hp ⟨w, fun _ => False⟩ H w' → SX.Fn Tryd.prog 52 [] w' (fun _ => False) fun r N => r = .bool true := fun H w' hp => Tw.works_fn w'
  have dn : (∀ xs, detV (.agg #[I c.wide, I c.high, sD, sT, sS]) c 14 xs = none) ∧ (∀ xs, detV (.agg #[I c.wide, I c.high, sD, sT, sS]) c 52 xs = none) ∧ (∀ xs, detV (.agg #[I c.wide, I c.high, sD, sT, sS]) c 56 xs = none) ∧ (∀ xs, detV (.agg #[I c.wide, I c.high, sD, sT, sS]) c 53 xs = none) ∧
    (∀ xs, detV (.agg #[I c.wide, I c.high, sD, sT, sS]) c 32 xs = none) ∧ (∀ xs, detV (.agg #[I c.wide, I c.high, sD, sT, sS]) c 57 xs = none) ∧ (∀ xs, detV (.agg #[I c.wide, I c.high, sD, sT, sS]) c 34 xs = none) ∧ (∀ xs, detV (.agg #[I c.wide, I c.high, sD, sT, sS]) c 28 xs = none) ∧ (∀ xs, detV (.agg #[I c.wide, I c.high, sD, sT, sS]) c 58 xs = none) := ⟨fun _ => rfl, fun _ => rfl, fun _ => rfl, fun _ => rfl, fun _ => rfl, fun _ => rfl, fun _ => rfl, fun _ => rfl, fun _ => rfl⟩
  have hcv := fun hsm (H : List HO) w' (hp : Hp ⟨w, fun _ => False⟩ H w') => checkVeer_fn w' (hw.hp hp) _ c (hc0.hp hp) hsm ⟨p, q, u, z⟩ g t
  have hve := fun hsm (H : List HO) w' (hp : Hp ⟨w, fun _ => False⟩ H w') => veer_le w' (hw.hp hp) _ c (hc0.hp hp) hsm ⟨p, q, u, z⟩ g t
  unfold anv at hcv hve
  simp only [] at hcv hve
  refine walk [] [] hD Tryd.func13 rfl Tryd.ntmps13 res13 (by kernel_rfl) no_facts ?_
  simp (config := { maxSteps := 4000000 }) only [↓sx0, ↓sx1, ↓sx2, ↓sx3, ↓sx4, ↓sx5, ↓sx6, sx0, sx1, sx2, sx3, sx4, sx5, sx6, tf13, ev3_hold, sxo, sxc, sxp, sxq, sxr, sxs, sxl, sxm, Int.reduceBEq, Int.reduceBNe, Int.reduceLT, Int.reduceLE, Int.reduceEq, Int.reduceGT, Int.reduceGE, Int.reduceToNat, ↓reduceIte, List.reduceReplicate, Nat.reduceAdd, Nat.reduceSub, Nat.reduceMul, Nat.reduceLT, Nat.reduceLeDiff, Nat.reduceBEq, Nat.reduceEqDiff, dn]
  refine CallOb.pureH (fun w' hp => vast_fn w' _ c (hc0.hp hp)) ?_
  rintro r0 N0 ⟨t0, rfl, hb0⟩
  cases t0 with
  | true =>
    as_aux_lemma =>
    refine ⟨?_⟩
    simp (config := { maxSteps := 4000000 }) only [↓sx0, ↓sx1, ↓sx2, ↓sx3, ↓sx4, ↓sx5, ↓sx6, sx0, sx1, sx2, sx3, sx4, sx5, sx6, tf13, ev3_hold, sxo, sxc, sxp, sxq, sxr, sxs, sxl, sxm, Int.reduceBEq, Int.reduceBNe, Int.reduceLT, Int.reduceLE, Int.reduceEq, Int.reduceGT, Int.reduceGE, Int.reduceToNat, ↓reduceIte, List.reduceReplicate, Nat.reduceAdd, Nat.reduceSub, Nat.reduceMul, Nat.reduceLT, Nat.reduceLeDiff, Nat.reduceBEq, Nat.reduceEqDiff, dn]
    refine CallOb.pureH (fun w' hp => hwk _ w' hp) ?_
    rintro rW NW rfl
    refine ⟨?_⟩
    simp (config := { maxSteps := 4000000 }) only [↓sx0, ↓sx1, ↓sx2, ↓sx3, ↓sx4, ↓sx5, ↓sx6, sx0, sx1, sx2, sx3, sx4, sx5, sx6, tf13, ev3_hold, sxo, sxc, sxp, sxq, sxr, sxs, sxl, sxm, Int.reduceBEq, Int.reduceBNe, Int.reduceLT, Int.reduceLE, Int.reduceEq, Int.reduceGT, Int.reduceGE, Int.reduceToNat, ↓reduceIte, List.reduceReplicate, Nat.reduceAdd, Nat.reduceSub, Nat.reduceMul, Nat.reduceLT, Nat.reduceLeDiff, Nat.reduceBEq, Nat.reduceEqDiff]
  | false =>
  have hf := (hb0 rfl).1
  have hsm := few_small hf
  refine ⟨?_⟩
  simp (config := { maxSteps := 4000000 }) only [↓sx0, ↓sx1, ↓sx2, ↓sx3, ↓sx4, ↓sx5, ↓sx6, sx0, sx1, sx2, sx3, sx4, sx5, sx6, tf13, ev3_hold, sxo, sxc, sxp, sxq, sxr, sxs, sxl, sxm, Int.reduceBEq, Int.reduceBNe, Int.reduceLT, Int.reduceLE, Int.reduceEq, Int.reduceGT, Int.reduceGE, Int.reduceToNat, ↓reduceIte, List.reduceReplicate, Nat.reduceAdd, Nat.reduceSub, Nat.reduceMul, Nat.reduceLT, Nat.reduceLeDiff, Nat.reduceBEq, Nat.reduceEqDiff, dn]
  refine CallOb.pureH (fun w' hp => hcv hsm _ w' hp) ?_
  rintro r1 N1 rfl
  by_cases he : veerE c ⟨p, q, u, z⟩ g t = 0
  case neg =>
    as_aux_lemma =>
    have e1 : (veerE c ⟨p, q, u, z⟩ g t = 0) = False := eq_false he
    refine ⟨?_⟩
    simp (config := { maxSteps := 4000000 }) only [↓sx0, ↓sx1, ↓sx2, ↓sx3, ↓sx4, ↓sx5, ↓sx6, sx0, sx1, sx2, sx3, sx4, sx5, sx6, tf13, ev3_hold, sxo, sxc, sxp, sxq, sxr, sxs, sxl, sxm, Int.reduceBEq, Int.reduceBNe, Int.reduceLT, Int.reduceLE, Int.reduceEq, Int.reduceGT, Int.reduceGE, Int.reduceToNat, ↓reduceIte, List.reduceReplicate, Nat.reduceAdd, Nat.reduceSub, Nat.reduceMul, Nat.reduceLT, Nat.reduceLeDiff, Nat.reduceBEq, Nat.reduceEqDiff, e1, dn]
    refine CallOb.pureH (fun w' hp => hwk _ w' hp) ?_
    rintro rW NW rfl
    refine ⟨?_⟩
    simp (config := { maxSteps := 4000000 }) only [↓sx0, ↓sx1, ↓sx2, ↓sx3, ↓sx4, ↓sx5, ↓sx6, sx0, sx1, sx2, sx3, sx4, sx5, sx6, tf13, ev3_hold, sxo, sxc, sxp, sxq, sxr, sxs, sxl, sxm, Int.reduceBEq, Int.reduceBNe, Int.reduceLT, Int.reduceLE, Int.reduceEq, Int.reduceGT, Int.reduceGE, Int.reduceToNat, ↓reduceIte, List.reduceReplicate, Nat.reduceAdd, Nat.reduceSub, Nat.reduceMul, Nat.reduceLT, Nat.reduceLeDiff, Nat.reduceBEq, Nat.reduceEqDiff]
  have hz := veerE_zero he
  obtain ⟨hok, hA, hg, htk⟩ := hz
  have hAi := anB_iff hA
  obtain ⟨⟨K, hAK, hK⟩, hcb, hscp, hpit⟩ := hAi
  simp only [] at hAK hcb hscp hpit
  have kt := tick_of htk
  obtain ⟨T, hT, hTl⟩ := kt
  subst hT hAK
  have hdm := hok.dims
  obtain ⟨eW, eH, hW, hH, hlen⟩ := hdm
  have h144 := Nat.mul_le_mul hW.2 hH.2
  have hd := dpt_bd hok hK hTl
  have hsc := scp_bd hok hA hK hTl
  simp only [] at hsc
  have hrb := fun y (hy : y < c.depth.length) => rch_bd hok hA hK hy
  simp only [] at hrb
  have hVe : veerS c ⟨K, q, u, z⟩ g T = vlenL c ⟨K, q, u, z⟩ K g T := by
    unfold veerS
    rw [if_pos he]
    rfl
  have hVl := vlenL_len c ⟨K, q, u, z⟩ K g T
  have hVg := fun x (hx : x < c.depth.length) => vlenL_get (A := ⟨K, q, u, z⟩) (K := K) (g := g) (T := T) hx
  have hVc := fun x (hx : x < c.depth.length) => vlen_cases (c := c) (A := ⟨K, q, u, z⟩) (K := K) (g := g) (T := T) (x := x) (by have := hrb x hx; unfold rch; simp only []; omega)
  rw [he]
  rw [he, hVe] at hve
  generalize vlenL c ⟨K, q, u, z⟩ K g T = VL at hVl hVg hve
  have hwt := fun (H : List HO) w' (hp : Hp ⟨w, fun _ => False⟩ H w') => water1_fn w' _ c (hc0.hp hp) hsm K T
  rw [waterV_ok hok hK hTl] at hwt
  have hst := fun (H : List HO) w' (hp : Hp ⟨w, fun _ => False⟩ H w') => steps_fn w' (hw.hp hp) c.W c.H K sD sT sS hW hH (by omega)
  rw [← eW, ← eH] at hst
  have e6 : IntKind.i64.wrap (c.wide * c.high) = (c.depth.length : Int) := by
    have h1 := hok.2.2.1
    rw [← h1]
    exact wrap_id (by omega)
  refine ⟨?_⟩
  simp (config := { maxSteps := 4000000 }) only [↓sx0, ↓sx1, ↓sx2, ↓sx3, ↓sx4, ↓sx5, ↓sx6, sx0, sx1, sx2, sx3, sx4, sx5, sx6, tf13, ev3_hold, sxo, sxc, sxp, sxq, sxr, sxs, sxl, sxm, Int.reduceBEq, Int.reduceBNe, Int.reduceLT, Int.reduceLE, Int.reduceEq, Int.reduceGT, Int.reduceGE, Int.reduceToNat, ↓reduceIte, List.reduceReplicate, Nat.reduceAdd, Nat.reduceSub, Nat.reduceMul, Nat.reduceLT, Nat.reduceLeDiff, Nat.reduceBEq, Nat.reduceEqDiff, dn]
  refine CallOb.pureH (fun w' hp => hve hsm _ w' hp) ?_
  rintro r2 N2 ⟨xl, rfl, hgl⟩
  have hshp := hgl.shape
  obtain ⟨adl, cpl, rfl⟩ := hshp
  refine ⟨?_⟩
  simp (config := { maxSteps := 4000000 }) only [↓sx0, ↓sx1, ↓sx2, ↓sx3, ↓sx4, ↓sx5, ↓sx6, sx0, sx1, sx2, sx3, sx4, sx5, sx6, tf13, ev3_hold, sxo, sxc, sxp, sxq, sxr, sxs, sxl, sxm, Int.reduceBEq, Int.reduceBNe, Int.reduceLT, Int.reduceLE, Int.reduceEq, Int.reduceGT, Int.reduceGE, Int.reduceToNat, ↓reduceIte, List.reduceReplicate, Nat.reduceAdd, Nat.reduceSub, Nat.reduceMul, Nat.reduceLT, Nat.reduceLeDiff, Nat.reduceBEq, Nat.reduceEqDiff, dn, vS, spc]
  refine CallOb.pureH (fun w' hp => hwt _ w' hp) ?_
  rintro r3 N3 rfl
  have e9 : ((VL.length : Int) = (c.depth.length : Int)) = True := eq_true (by omega)
  refine ⟨?_⟩
  simp (config := { maxSteps := 4000000 }) only [↓sx0, ↓sx1, ↓sx2, ↓sx3, ↓sx4, ↓sx5, ↓sx6, sx0, sx1, sx2, sx3, sx4, sx5, sx6, tf13, ev3_hold, sxo, sxc, sxp, sxq, sxr, sxs, sxl, sxm, Int.reduceBEq, Int.reduceBNe, Int.reduceLT, Int.reduceLE, Int.reduceEq, Int.reduceGT, Int.reduceGE, Int.reduceToNat, ↓reduceIte, List.reduceReplicate, Nat.reduceAdd, Nat.reduceSub, Nat.reduceMul, Nat.reduceLT, Nat.reduceLeDiff, Nat.reduceBEq, Nat.reduceEqDiff, dn, vS, spc, detV_eq, e6, e9]
  refine CallOb.pureH (fun w' hp => hst _ w' hp) ?_
  rintro r4 N4 ⟨bs, l, rfl, hrow, hll, hld⟩
  rw [← hlen] at hrow hll ⊢
  have hl : ∀ y, y < c.depth.length → lv l y = (dst c.W c.H K y : Nat) := fun y hy => hld y _ (by omega) (dst_is (by omega) (by omega))
  have hat : ∀ y, y < c.depth.length → l[y]? = some ((dst c.W c.H K y : Nat) : Int) := fun y hy => by
    rw [← hl y hy]
    exact getD_at (by omega) 0
  have hvs := fun (H : List HO) w' (hp : Hp ⟨w, fun _ => False⟩ H w') (hN : ∀ h ∈ N4, h ∈ H) (x : Nat) (hx : x < c.depth.length) (len : Int) => veers_fn w' (hw.hp hp) _ c (hc0.hp hp) hok ⟨K, q, u, z⟩ hA K rfl hK g T x hTl hx len _ l (row_hp (hN _ hrow) hp) hll hl
  unfold anv at hvs
  simp only [] at hvs
  have hrV : ∀ G, (∀ h ∈ N2, h ∈ G) → Rdv ⟨w, fun _ => False⟩ G (.slice adl VL.length cpl) 1 (ints VL) := fun G hG => hgl.rdv i1_len hG
  have hfl := fun (H : List HO) w' (hp : Hp ⟨w, fun _ => False⟩ H w') (y : Nat) (hy : y < c.depth.length) => (show SX.Fn Tryd.prog 34 [.agg #[I c.wide, I c.high, sD, sT, sS], I g, I y, I T] w' (fun _ => False) fun r N => r = .tuple #[.bool (c.flt g T y), .bool (decide (c.over y T (c.thi T) ≥ g)), I 0] by
    have := floats1_fn w' _ c (hc0.hp hp) hsm g y T
    rw [floatsV_ok hok hy hTl hg] at this
    exact this)
  have hap := fun (H : List HO) w' (hp : Hp ⟨w, fun _ => False⟩ H w') (y : Nat) (hy : y < c.depth.length) => apart_at w' (hw.hp hp) _ c (hc0.hp hp) hsm hok K y hK hy
  have hov := fun h (hh : -10000 ≤ h ∧ h ≤ 10000) => detV_over (v := .agg #[I c.wide, I c.high, sD, sT, sS]) hok hK hTl hh
  have hbds := hok.bds hK hTl
  have hu : c.tide[T]? = some (c.tlo T, c.thi T) := getD_at hTl (0, 0)
  have hrT := hsT.rd0
  obtain ⟨aT, nT, cT, rfl⟩ := hsT.shape
  have hnT := hsT.le spc_len (by omega)
  subst hnT
  have hde : dpt c K T = max 0 (c.over K T (c.thi T)) := rfl
  have hNN2 : ∀ G : List HO, ∀ h ∈ N2, h ∈ G ++ (N4 ++ (N3 ++ (N2 ++ (N1 ++ N0)))) := fun G h hh => by simp [hh]
  have hNN4 : ∀ G : List HO, ∀ h ∈ N4, h ∈ G ++ (N4 ++ (N3 ++ (N2 ++ (N1 ++ N0)))) := fun G h hh => by simp [hh]
  generalize hHH : N4 ++ (N3 ++ (N2 ++ (N1 ++ N0))) = HH at hNN2 hNN4
  refine ⟨?_⟩
  simp (config := { maxSteps := 4000000 }) only [↓sx0, ↓sx1, ↓sx2, ↓sx3, ↓sx4, ↓sx5, ↓sx6, sx0, sx1, sx2, sx3, sx4, sx5, sx6, tf13, ev3_hold, sxo, sxc, sxp, sxq, sxr, sxs, sxl, sxm, Int.reduceBEq, Int.reduceBNe, Int.reduceLT, Int.reduceLE, Int.reduceEq, Int.reduceGT, Int.reduceGE, Int.reduceToNat, ↓reduceIte, List.reduceReplicate, Nat.reduceAdd, Nat.reduceSub, Nat.reduceMul, Nat.reduceLT, Nat.reduceLeDiff, Nat.reduceBEq, Nat.reduceEqDiff]
  refine loop_constH HH (by rw [← hHH]; exact HImp.refl _ _) [(6, 6), (12, 18), (68, 250)] (fun i : Nat => [(12, I i)])
    (fun i H1 => i ≤ c.depth.length ∧ H1 = HH) (fun i => c.depth.length - i) 0 ?_ ⟨Nat.zero_le _, rfl⟩ ?_
  · simp (config := { maxSteps := 4000000 }) only [↓sx0, ↓sx1, ↓sx2, ↓sx3, ↓sx4, ↓sx5, ↓sx6, sx0, sx1, sx2, sx3, sx4, sx5, sx6, tf13, ev3_hold, sxo, sxc, sxp, sxq, sxr, sxs, sxl, sxm, Int.reduceBEq, Int.reduceBNe, Int.reduceLT, Int.reduceLE, Int.reduceEq, Int.reduceGT, Int.reduceGE, Int.reduceToNat, ↓reduceIte, List.reduceReplicate, Nat.reduceAdd, Nat.reduceSub, Nat.reduceMul, Nat.reduceLT, Nat.reduceLeDiff, Nat.reduceBEq, Nat.reduceEqDiff]
    simp
  rintro i H1 g1 ⟨hi, rfl⟩
  by_cases hin : i = c.depth.length
  · as_aux_lemma =>
    have e7 : ((i : Int) < (VL.length : Int)) = False := eq_false (by omega)
    refine ⟨?_⟩
    simp (config := { maxSteps := 4000000 }) only [↓sx0, ↓sx1, ↓sx2, ↓sx3, ↓sx4, ↓sx5, ↓sx6, sx0, sx1, sx2, sx3, sx4, sx5, sx6, tf13, ev3_hold, sxo, sxc, sxp, sxq, sxr, sxs, sxl, sxm, Int.reduceBEq, Int.reduceBNe, Int.reduceLT, Int.reduceLE, Int.reduceEq, Int.reduceGT, Int.reduceGE, Int.reduceToNat, ↓reduceIte, List.reduceReplicate, Nat.reduceAdd, Nat.reduceSub, Nat.reduceMul, Nat.reduceLT, Nat.reduceLeDiff, Nat.reduceBEq, Nat.reduceEqDiff, e7, dn]
    refine CallOb.pureH (fun w' hp => hwk _ w' hp) ?_
    rintro rW NW rfl
    refine ⟨?_⟩
    simp (config := { maxSteps := 4000000 }) only [↓sx0, ↓sx1, ↓sx2, ↓sx3, ↓sx4, ↓sx5, ↓sx6, sx0, sx1, sx2, sx3, sx4, sx5, sx6, tf13, ev3_hold, sxo, sxc, sxp, sxq, sxr, sxs, sxl, sxm, Int.reduceBEq, Int.reduceBNe, Int.reduceLT, Int.reduceLE, Int.reduceEq, Int.reduceGT, Int.reduceGE, Int.reduceToNat, ↓reduceIte, List.reduceReplicate, Nat.reduceAdd, Nat.reduceSub, Nat.reduceMul, Nat.reduceLT, Nat.reduceLeDiff, Nat.reduceBEq, Nat.reduceEqDiff]
  have e7 : ((i : Int) < (VL.length : Int)) = True := eq_true (by omega)
  have e8 : IntKind.i64.wrap ((i : Int) + 1) = ((i + 1 : Nat) : Int) := (wrap_id (by omega)).trans (by omega)
  have hpi := hrb i (by omega)
  have hVi := hVg i (by omega)
  have hci := hVc i (by omega)
  rw [← hVi] at hci
  have hui : VL[i]? = some (lv VL i) := getD_at (by omega) 0
  generalize lv VL i = M at hui hci
  have hn2 := hNN2 []
  have hn4 := hNN4 []
  simp only [List.nil_append] at hn2 hn4
  rcases hci with ⟨rfl, hno⟩ | ⟨hM0, hMv, hMl⟩
  · as_aux_lemma =>
    refine ⟨?_⟩
    simp (config := { maxSteps := 4000000 }) only [↓sx0, ↓sx1, ↓sx2, ↓sx3, ↓sx4, ↓sx5, ↓sx6, sx0, sx1, sx2, sx3, sx4, sx5, sx6, tf13, ev3_hold, sxo, sxc, sxp, sxq, sxr, sxs, sxl, sxm, Int.reduceBEq, Int.reduceBNe, Int.reduceLT, Int.reduceLE, Int.reduceEq, Int.reduceGT, Int.reduceGE, Int.reduceToNat, ↓reduceIte, List.reduceReplicate, Nat.reduceAdd, Nat.reduceSub, Nat.reduceMul, Nat.reduceLT, Nat.reduceLeDiff, Nat.reduceBEq, Nat.reduceEqDiff, e7]
    refine amid (at_1 (hrV _ hn2) i1_len hui rfl fun ad1 => ?_)
    simp (config := { maxSteps := 4000000 }) only [↓sx0, ↓sx1, ↓sx2, ↓sx3, ↓sx4, ↓sx5, ↓sx6, sx0, sx1, sx2, sx3, sx4, sx5, sx6, tf13, ev3_hold, sxo, sxc, sxp, sxq, sxr, sxs, sxl, sxm, Int.reduceBEq, Int.reduceBNe, Int.reduceLT, Int.reduceLE, Int.reduceEq, Int.reduceGT, Int.reduceGE, Int.reduceToNat, ↓reduceIte, List.reduceReplicate, Nat.reduceAdd, Nat.reduceSub, Nat.reduceMul, Nat.reduceLT, Nat.reduceLeDiff, Nat.reduceBEq, Nat.reduceEqDiff, e7]
    refine amid (at_1 (hrV _ hn2) i1_len hui rfl fun ad2 => ?_)
    simp (config := { maxSteps := 4000000 }) only [↓sx0, ↓sx1, ↓sx2, ↓sx3, ↓sx4, ↓sx5, ↓sx6, sx0, sx1, sx2, sx3, sx4, sx5, sx6, tf13, ev3_hold, sxo, sxc, sxp, sxq, sxr, sxs, sxl, sxm, Int.reduceBEq, Int.reduceBNe, Int.reduceLT, Int.reduceLE, Int.reduceEq, Int.reduceGT, Int.reduceGE, Int.reduceToNat, ↓reduceIte, List.reduceReplicate, Nat.reduceAdd, Nat.reduceSub, Nat.reduceMul, Nat.reduceLT, Nat.reduceLeDiff, Nat.reduceBEq, Nat.reduceEqDiff, dn]
    refine CallOb.pureH (fun w' hp => hvs _ w' hp hn4 i (by omega) le) ?_
    rintro r5 N5 ⟨b, rfl, hb⟩
    have hbf : b = false := by
      cases b with
      | false => rfl
      | true => exact absurd (hb.1 rfl) (hno le)
    subst hbf
    refine ⟨?_⟩
    simp (config := { maxSteps := 4000000 }) only [↓sx0, ↓sx1, ↓sx2, ↓sx3, ↓sx4, ↓sx5, ↓sx6, sx0, sx1, sx2, sx3, sx4, sx5, sx6, tf13, ev3_hold, sxo, sxc, sxp, sxq, sxr, sxs, sxl, sxm, Int.reduceBEq, Int.reduceBNe, Int.reduceLT, Int.reduceLE, Int.reduceEq, Int.reduceGT, Int.reduceGE, Int.reduceToNat, ↓reduceIte, List.reduceReplicate, Nat.reduceAdd, Nat.reduceSub, Nat.reduceMul, Nat.reduceLT, Nat.reduceLeDiff, Nat.reduceBEq, Nat.reduceEqDiff, e8]
    exact ⟨i + 1, _, rfl, HImp.app _ _ _, ⟨by omega, rfl⟩, by omega⟩
  have q1 : (M < 0) = False := eq_false (by omega)
  have hMv0 := hMv
  obtain ⟨m1, m2, m3, m4, _⟩ := hMv
  unfold rch at m2
  simp only [] at m2 m3 m4
  have q2 : (M > q) = False := eq_false (by omega)
  have hmu : ∀ x : Int, x ≤ dpt c K T → u * x ≤ u * dpt c K T := fun x hx => Int.mul_le_mul_of_nonneg_left hx (by omega)
  have hu1 := hmu _ (show c.over K T (c.thi T) ≤ dpt c K T by omega)
  have hlow : ∀ x : Int, -2000 ≤ x → -20000 ≤ u * x := fun x hx => by
    have h1 : u * -2000 ≤ u * x := Int.mul_le_mul_of_nonneg_left hx (by omega)
    omega
  have ho0 : -2000 ≤ c.over K T (c.thi T) := by unfold Cht.over; omega
  have hl1 := hlow _ ho0
  have f1 : IntKind.i64.wrap (u * c.over K T (c.thi T)) = u * c.over K T (c.thi T) := wrap_id (by omega)
  have f2 : IntKind.i64.wrap (z * ((dst c.W c.H K i : Nat) : Int)) = z * ((dst c.W c.H K i : Nat) : Int) := wrap_id (by omega)
  have f3 : IntKind.i64.wrap (z * ((dst c.W c.H K i : Nat) : Int) + c.over K T (c.thi T)) = z * ((dst c.W c.H K i : Nat) : Int) + c.over K T (c.thi T) := wrap_id (by omega)
  have q3 : (M < u * c.over K T (c.thi T)) = False := eq_false (by omega)
  have q4 : (M < z * ((dst c.W c.H K i : Nat) : Int) + c.over K T (c.thi T)) = False := eq_false (by omega)
  refine ⟨?_⟩
  simp (config := { maxSteps := 4000000 }) only [↓sx0, ↓sx1, ↓sx2, ↓sx3, ↓sx4, ↓sx5, ↓sx6, sx0, sx1, sx2, sx3, sx4, sx5, sx6, tf13, ev3_hold, sxo, sxc, sxp, sxq, sxr, sxs, sxl, sxm, Int.reduceBEq, Int.reduceBNe, Int.reduceLT, Int.reduceLE, Int.reduceEq, Int.reduceGT, Int.reduceGE, Int.reduceToNat, ↓reduceIte, List.reduceReplicate, Nat.reduceAdd, Nat.reduceSub, Nat.reduceMul, Nat.reduceLT, Nat.reduceLeDiff, Nat.reduceBEq, Nat.reduceEqDiff, e7]
  refine amid (at_1 (hrV _ hn2) i1_len hui rfl fun ad1 => ?_)
  simp (config := { maxSteps := 4000000 }) only [↓sx0, ↓sx1, ↓sx2, ↓sx3, ↓sx4, ↓sx5, ↓sx6, sx0, sx1, sx2, sx3, sx4, sx5, sx6, tf13, ev3_hold, sxo, sxc, sxp, sxq, sxr, sxs, sxl, sxm, Int.reduceBEq, Int.reduceBNe, Int.reduceLT, Int.reduceLE, Int.reduceEq, Int.reduceGT, Int.reduceGE, Int.reduceToNat, ↓reduceIte, List.reduceReplicate, Nat.reduceAdd, Nat.reduceSub, Nat.reduceMul, Nat.reduceLT, Nat.reduceLeDiff, Nat.reduceBEq, Nat.reduceEqDiff, q1, dn]
  refine CallOb.pureH (fun w' hp => hfl _ w' hp i (by omega)) ?_
  intro r5 N5 hr5
  rw [m1] at hr5
  subst hr5
  refine ⟨?_⟩
  simp (config := { maxSteps := 4000000 }) only [↓sx0, ↓sx1, ↓sx2, ↓sx3, ↓sx4, ↓sx5, ↓sx6, sx0, sx1, sx2, sx3, sx4, sx5, sx6, tf13, ev3_hold, sxo, sxc, sxp, sxq, sxr, sxs, sxl, sxm, Int.reduceBEq, Int.reduceBNe, Int.reduceLT, Int.reduceLE, Int.reduceEq, Int.reduceGT, Int.reduceGE, Int.reduceToNat, ↓reduceIte, List.reduceReplicate, Nat.reduceAdd, Nat.reduceSub, Nat.reduceMul, Nat.reduceLT, Nat.reduceLeDiff, Nat.reduceBEq, Nat.reduceEqDiff, dn]
  refine CallOb.pureH (fun w' hp => hap _ w' hp i (by omega)) ?_
  rintro r6 N6 rfl
  have hn2' : ∀ h ∈ N2, h ∈ N6 ++ (N5 ++ H1) := fun h hh => by simp [hn2 h hh]
  have hn4' : ∀ h ∈ N4, h ∈ N6 ++ (N5 ++ H1) := fun h hh => by simp [hn4 h hh]
  refine ⟨?_⟩
  simp (config := { maxSteps := 4000000 }) only [↓sx0, ↓sx1, ↓sx2, ↓sx3, ↓sx4, ↓sx5, ↓sx6, sx0, sx1, sx2, sx3, sx4, sx5, sx6, tf13, ev3_hold, sxo, sxc, sxp, sxq, sxr, sxs, sxl, sxm, Int.reduceBEq, Int.reduceBNe, Int.reduceLT, Int.reduceLE, Int.reduceEq, Int.reduceGT, Int.reduceGE, Int.reduceToNat, ↓reduceIte, List.reduceReplicate, Nat.reduceAdd, Nat.reduceSub, Nat.reduceMul, Nat.reduceLT, Nat.reduceLeDiff, Nat.reduceBEq, Nat.reduceEqDiff, e7, List.append_eq]
  refine amid (at_1 (hrV _ hn2') i1_len hui rfl fun ad2 => ?_)
  simp (config := { maxSteps := 4000000 }) only [↓sx0, ↓sx1, ↓sx2, ↓sx3, ↓sx4, ↓sx5, ↓sx6, sx0, sx1, sx2, sx3, sx4, sx5, sx6, tf13, ev3_hold, sxo, sxc, sxp, sxq, sxr, sxs, sxl, sxm, Int.reduceBEq, Int.reduceBNe, Int.reduceLT, Int.reduceLE, Int.reduceEq, Int.reduceGT, Int.reduceGE, Int.reduceToNat, ↓reduceIte, List.reduceReplicate, Nat.reduceAdd, Nat.reduceSub, Nat.reduceMul, Nat.reduceLT, Nat.reduceLeDiff, Nat.reduceBEq, Nat.reduceEqDiff, q2, e7]
  refine amid (at_1 (hrV _ hn2') i1_len hui rfl fun ad3 => ?_)
  simp (config := { maxSteps := 4000000 }) only [↓sx0, ↓sx1, ↓sx2, ↓sx3, ↓sx4, ↓sx5, ↓sx6, sx0, sx1, sx2, sx3, sx4, sx5, sx6, tf13, ev3_hold, sxo, sxc, sxp, sxq, sxr, sxs, sxl, sxm, Int.reduceBEq, Int.reduceBNe, Int.reduceLT, Int.reduceLE, Int.reduceEq, Int.reduceGT, Int.reduceGE, Int.reduceToNat, ↓reduceIte, List.reduceReplicate, Nat.reduceAdd, Nat.reduceSub, Nat.reduceMul, Nat.reduceLT, Nat.reduceLeDiff, Nat.reduceBEq, Nat.reduceEqDiff, f1, q3, e7]
  refine amid (at_1 (hrV _ hn2') i1_len hui rfl fun ad4 => ?_)
  simp (config := { maxSteps := 4000000 }) only [↓sx0, ↓sx1, ↓sx2, ↓sx3, ↓sx4, ↓sx5, ↓sx6, sx0, sx1, sx2, sx3, sx4, sx5, sx6, tf13, ev3_hold, sxo, sxc, sxp, sxq, sxr, sxs, sxl, sxm, Int.reduceBEq, Int.reduceBNe, Int.reduceLT, Int.reduceLE, Int.reduceEq, Int.reduceGT, Int.reduceGE, Int.reduceToNat, ↓reduceIte, List.reduceReplicate, Nat.reduceAdd, Nat.reduceSub, Nat.reduceMul, Nat.reduceLT, Nat.reduceLeDiff, Nat.reduceBEq, Nat.reduceEqDiff, f2, f3, q4, e7]
  refine amid (at_1 (hrV _ hn2') i1_len hui rfl fun ad5 => ?_)
  simp (config := { maxSteps := 4000000 }) only [↓sx0, ↓sx1, ↓sx2, ↓sx3, ↓sx4, ↓sx5, ↓sx6, sx0, sx1, sx2, sx3, sx4, sx5, sx6, tf13, ev3_hold, sxo, sxc, sxp, sxq, sxr, sxs, sxl, sxm, Int.reduceBEq, Int.reduceBNe, Int.reduceLT, Int.reduceLE, Int.reduceEq, Int.reduceGT, Int.reduceGE, Int.reduceToNat, ↓reduceIte, List.reduceReplicate, Nat.reduceAdd, Nat.reduceSub, Nat.reduceMul, Nat.reduceLT, Nat.reduceLeDiff, Nat.reduceBEq, Nat.reduceEqDiff, dn]
  refine CallOb.pureH (fun w' hp => hvs _ w' hp hn4' i (by omega) M) ?_
  rintro r7 N7 ⟨b, rfl, hb⟩
  have hbt : b = true := hb.2 hMv0
  subst hbt
  have hn2a : ∀ h ∈ N2, h ∈ N7 ++ (N6 ++ (N5 ++ H1)) := fun h hh => by simp [hn2 h hh]
  have hn4a : ∀ h ∈ N4, h ∈ N7 ++ (N6 ++ (N5 ++ H1)) := fun h hh => by simp [hn4 h hh]
  by_cases k5 : le < M
  case neg =>
    as_aux_lemma =>
    have q5 : (le < M) = False := eq_false k5
    refine ⟨?_⟩
    simp (config := { maxSteps := 4000000 }) only [↓sx0, ↓sx1, ↓sx2, ↓sx3, ↓sx4, ↓sx5, ↓sx6, sx0, sx1, sx2, sx3, sx4, sx5, sx6, tf13, ev3_hold, sxo, sxc, sxp, sxq, sxr, sxs, sxl, sxm, Int.reduceBEq, Int.reduceBNe, Int.reduceLT, Int.reduceLE, Int.reduceEq, Int.reduceGT, Int.reduceGE, Int.reduceToNat, ↓reduceIte, List.reduceReplicate, Nat.reduceAdd, Nat.reduceSub, Nat.reduceMul, Nat.reduceLT, Nat.reduceLeDiff, Nat.reduceBEq, Nat.reduceEqDiff, e7]
    refine amid (at_1 (hrV _ hn2a) i1_len hui rfl fun ad6 => ?_)
    by_cases w1 : ht ≥ c.tlo T
    case neg =>
      have g1 : (ht ≥ c.tlo T) = False := eq_false w1
      simp (config := { maxSteps := 4000000 }) only [↓sx0, ↓sx1, ↓sx2, ↓sx3, ↓sx4, ↓sx5, ↓sx6, sx0, sx1, sx2, sx3, sx4, sx5, sx6, tf13, ev3_hold, sxo, sxc, sxp, sxq, sxr, sxs, sxl, sxm, Int.reduceBEq, Int.reduceBNe, Int.reduceLT, Int.reduceLE, Int.reduceEq, Int.reduceGT, Int.reduceGE, Int.reduceToNat, ↓reduceIte, List.reduceReplicate, Nat.reduceAdd, Nat.reduceSub, Nat.reduceMul, Nat.reduceLT, Nat.reduceLeDiff, Nat.reduceBEq, Nat.reduceEqDiff, q5]
      refine at_f (hrT _) spc_len hu (o := 0) (x := I (c.tlo T)) rfl fun ad7 => ?_
      simp (config := { maxSteps := 4000000 }) only [↓sx0, ↓sx1, ↓sx2, ↓sx3, ↓sx4, ↓sx5, ↓sx6, sx0, sx1, sx2, sx3, sx4, sx5, sx6, tf13, ev3_hold, sxo, sxc, sxp, sxq, sxr, sxs, sxl, sxm, Int.reduceBEq, Int.reduceBNe, Int.reduceLT, Int.reduceLE, Int.reduceEq, Int.reduceGT, Int.reduceGE, Int.reduceToNat, ↓reduceIte, List.reduceReplicate, Nat.reduceAdd, Nat.reduceSub, Nat.reduceMul, Nat.reduceLT, Nat.reduceLeDiff, Nat.reduceBEq, Nat.reduceEqDiff, g1, e8]
      exact ⟨i + 1, _, rfl, (HImp.app _ _ _).trans ((HImp.app _ _ _).trans (HImp.app _ _ _)), ⟨by omega, rfl⟩, by omega⟩
    have g1 : (ht ≥ c.tlo T) = True := eq_true w1
    by_cases w2 : ht ≤ c.thi T
    case neg =>
      have g2 : (ht ≤ c.thi T) = False := eq_false w2
      simp (config := { maxSteps := 4000000 }) only [↓sx0, ↓sx1, ↓sx2, ↓sx3, ↓sx4, ↓sx5, ↓sx6, sx0, sx1, sx2, sx3, sx4, sx5, sx6, tf13, ev3_hold, sxo, sxc, sxp, sxq, sxr, sxs, sxl, sxm, Int.reduceBEq, Int.reduceBNe, Int.reduceLT, Int.reduceLE, Int.reduceEq, Int.reduceGT, Int.reduceGE, Int.reduceToNat, ↓reduceIte, List.reduceReplicate, Nat.reduceAdd, Nat.reduceSub, Nat.reduceMul, Nat.reduceLT, Nat.reduceLeDiff, Nat.reduceBEq, Nat.reduceEqDiff, q5]
      refine at_f (hrT _) spc_len hu (o := 0) (x := I (c.tlo T)) rfl fun ad7 => ?_
      simp (config := { maxSteps := 4000000 }) only [↓sx0, ↓sx1, ↓sx2, ↓sx3, ↓sx4, ↓sx5, ↓sx6, sx0, sx1, sx2, sx3, sx4, sx5, sx6, tf13, ev3_hold, sxo, sxc, sxp, sxq, sxr, sxs, sxl, sxm, Int.reduceBEq, Int.reduceBNe, Int.reduceLT, Int.reduceLE, Int.reduceEq, Int.reduceGT, Int.reduceGE, Int.reduceToNat, ↓reduceIte, List.reduceReplicate, Nat.reduceAdd, Nat.reduceSub, Nat.reduceMul, Nat.reduceLT, Nat.reduceLeDiff, Nat.reduceBEq, Nat.reduceEqDiff, g1]
      refine at_f (hrT _) spc_len hu (o := 1) (x := I (c.thi T)) rfl fun ad8 => ?_
      simp (config := { maxSteps := 4000000 }) only [↓sx0, ↓sx1, ↓sx2, ↓sx3, ↓sx4, ↓sx5, ↓sx6, sx0, sx1, sx2, sx3, sx4, sx5, sx6, tf13, ev3_hold, sxo, sxc, sxp, sxq, sxr, sxs, sxl, sxm, Int.reduceBEq, Int.reduceBNe, Int.reduceLT, Int.reduceLE, Int.reduceEq, Int.reduceGT, Int.reduceGE, Int.reduceToNat, ↓reduceIte, List.reduceReplicate, Nat.reduceAdd, Nat.reduceSub, Nat.reduceMul, Nat.reduceLT, Nat.reduceLeDiff, Nat.reduceBEq, Nat.reduceEqDiff, g2, e8]
      exact ⟨i + 1, _, rfl, (HImp.app _ _ _).trans ((HImp.app _ _ _).trans (HImp.app _ _ _)), ⟨by omega, rfl⟩, by omega⟩
    have g2 : (ht ≤ c.thi T) = True := eq_true w2
    have hov1 := hov ht (by omega)
    have ho1 : c.over K T ht ≤ dpt c K T := by unfold Cht.over at hde ⊢; omega
    have ho2 : -2000 ≤ c.over K T ht := by unfold Cht.over; omega
    have hu2 := hmu _ ho1
    have hl2 := hlow _ ho2
    have f4 : IntKind.i64.wrap (u * c.over K T ht) = u * c.over K T ht := wrap_id (by omega)
    have f5 : IntKind.i64.wrap (z * ((dst c.W c.H K i : Nat) : Int) + c.over K T ht) = z * ((dst c.W c.H K i : Nat) : Int) + c.over K T ht := wrap_id (by omega)
    have q6 : (M < u * c.over K T ht) = False := eq_false (by omega)
    have q7 : (M < z * ((dst c.W c.H K i : Nat) : Int) + c.over K T ht) = False := eq_false (by omega)
    simp (config := { maxSteps := 4000000 }) only [↓sx0, ↓sx1, ↓sx2, ↓sx3, ↓sx4, ↓sx5, ↓sx6, sx0, sx1, sx2, sx3, sx4, sx5, sx6, tf13, ev3_hold, sxo, sxc, sxp, sxq, sxr, sxs, sxl, sxm, Int.reduceBEq, Int.reduceBNe, Int.reduceLT, Int.reduceLE, Int.reduceEq, Int.reduceGT, Int.reduceGE, Int.reduceToNat, ↓reduceIte, List.reduceReplicate, Nat.reduceAdd, Nat.reduceSub, Nat.reduceMul, Nat.reduceLT, Nat.reduceLeDiff, Nat.reduceBEq, Nat.reduceEqDiff, q5]
    refine at_f (hrT _) spc_len hu (o := 0) (x := I (c.tlo T)) rfl fun ad7 => ?_
    simp (config := { maxSteps := 4000000 }) only [↓sx0, ↓sx1, ↓sx2, ↓sx3, ↓sx4, ↓sx5, ↓sx6, sx0, sx1, sx2, sx3, sx4, sx5, sx6, tf13, ev3_hold, sxo, sxc, sxp, sxq, sxr, sxs, sxl, sxm, Int.reduceBEq, Int.reduceBNe, Int.reduceLT, Int.reduceLE, Int.reduceEq, Int.reduceGT, Int.reduceGE, Int.reduceToNat, ↓reduceIte, List.reduceReplicate, Nat.reduceAdd, Nat.reduceSub, Nat.reduceMul, Nat.reduceLT, Nat.reduceLeDiff, Nat.reduceBEq, Nat.reduceEqDiff, g1]
    refine at_f (hrT _) spc_len hu (o := 1) (x := I (c.thi T)) rfl fun ad8 => ?_
    simp (config := { maxSteps := 4000000 }) only [↓sx0, ↓sx1, ↓sx2, ↓sx3, ↓sx4, ↓sx5, ↓sx6, sx0, sx1, sx2, sx3, sx4, sx5, sx6, tf13, ev3_hold, sxo, sxc, sxp, sxq, sxr, sxs, sxl, sxm, Int.reduceBEq, Int.reduceBNe, Int.reduceLT, Int.reduceLE, Int.reduceEq, Int.reduceGT, Int.reduceGE, Int.reduceToNat, ↓reduceIte, List.reduceReplicate, Nat.reduceAdd, Nat.reduceSub, Nat.reduceMul, Nat.reduceLT, Nat.reduceLeDiff, Nat.reduceBEq, Nat.reduceEqDiff, g2, hov1, e7]
    refine amid (at_1 (hrV _ hn2a) i1_len hui rfl fun ad9 => ?_)
    simp (config := { maxSteps := 4000000 }) only [↓sx0, ↓sx1, ↓sx2, ↓sx3, ↓sx4, ↓sx5, ↓sx6, sx0, sx1, sx2, sx3, sx4, sx5, sx6, tf13, ev3_hold, sxo, sxc, sxp, sxq, sxr, sxs, sxl, sxm, Int.reduceBEq, Int.reduceBNe, Int.reduceLT, Int.reduceLE, Int.reduceEq, Int.reduceGT, Int.reduceGE, Int.reduceToNat, ↓reduceIte, List.reduceReplicate, Nat.reduceAdd, Nat.reduceSub, Nat.reduceMul, Nat.reduceLT, Nat.reduceLeDiff, Nat.reduceBEq, Nat.reduceEqDiff, f4, q6, e7]
    refine amid (at_1 (hrV _ hn2a) i1_len hui rfl fun ad10 => ?_)
    simp (config := { maxSteps := 4000000 }) only [↓sx0, ↓sx1, ↓sx2, ↓sx3, ↓sx4, ↓sx5, ↓sx6, sx0, sx1, sx2, sx3, sx4, sx5, sx6, tf13, ev3_hold, sxo, sxc, sxp, sxq, sxr, sxs, sxl, sxm, Int.reduceBEq, Int.reduceBNe, Int.reduceLT, Int.reduceLE, Int.reduceEq, Int.reduceGT, Int.reduceGE, Int.reduceToNat, ↓reduceIte, List.reduceReplicate, Nat.reduceAdd, Nat.reduceSub, Nat.reduceMul, Nat.reduceLT, Nat.reduceLeDiff, Nat.reduceBEq, Nat.reduceEqDiff, f2, f5, q7, e8]
    exact ⟨i + 1, _, rfl, (HImp.app _ _ _).trans ((HImp.app _ _ _).trans (HImp.app _ _ _)), ⟨by omega, rfl⟩, by omega⟩
  as_aux_lemma =>
  have q5 : (le < M) = True := eq_true k5
  refine ⟨?_⟩
  simp (config := { maxSteps := 4000000 }) only [↓sx0, ↓sx1, ↓sx2, ↓sx3, ↓sx4, ↓sx5, ↓sx6, sx0, sx1, sx2, sx3, sx4, sx5, sx6, tf13, ev3_hold, sxo, sxc, sxp, sxq, sxr, sxs, sxl, sxm, Int.reduceBEq, Int.reduceBNe, Int.reduceLT, Int.reduceLE, Int.reduceEq, Int.reduceGT, Int.reduceGE, Int.reduceToNat, ↓reduceIte, List.reduceReplicate, Nat.reduceAdd, Nat.reduceSub, Nat.reduceMul, Nat.reduceLT, Nat.reduceLeDiff, Nat.reduceBEq, Nat.reduceEqDiff, e7]
  refine amid (at_1 (hrV _ hn2a) i1_len hui rfl fun ad6 => ?_)
  simp (config := { maxSteps := 4000000 }) only [↓sx0, ↓sx1, ↓sx2, ↓sx3, ↓sx4, ↓sx5, ↓sx6, sx0, sx1, sx2, sx3, sx4, sx5, sx6, tf13, ev3_hold, sxo, sxc, sxp, sxq, sxr, sxs, sxl, sxm, Int.reduceBEq, Int.reduceBNe, Int.reduceLT, Int.reduceLE, Int.reduceEq, Int.reduceGT, Int.reduceGE, Int.reduceToNat, ↓reduceIte, List.reduceReplicate, Nat.reduceAdd, Nat.reduceSub, Nat.reduceMul, Nat.reduceLT, Nat.reduceLeDiff, Nat.reduceBEq, Nat.reduceEqDiff, q5, dn]
  refine CallOb.pureH (fun w' hp => hvs _ w' hp hn4a i (by omega) le) ?_
  rintro r8 N8 ⟨b, rfl, hb⟩
  have hbf : b = false := by
    cases b with
    | false => rfl
    | true => exact absurd (hb.1 rfl) (hMl le k5)
  subst hbf
  have hn2b : ∀ h ∈ N2, h ∈ N8 ++ (N7 ++ (N6 ++ (N5 ++ H1))) := fun h hh => by simp [hn2 h hh]
  refine ⟨?_⟩
  by_cases w1 : ht ≥ c.tlo T
  case neg =>
    have g1 : (ht ≥ c.tlo T) = False := eq_false w1
    simp (config := { maxSteps := 4000000 }) only [↓sx0, ↓sx1, ↓sx2, ↓sx3, ↓sx4, ↓sx5, ↓sx6, sx0, sx1, sx2, sx3, sx4, sx5, sx6, tf13, ev3_hold, sxo, sxc, sxp, sxq, sxr, sxs, sxl, sxm, Int.reduceBEq, Int.reduceBNe, Int.reduceLT, Int.reduceLE, Int.reduceEq, Int.reduceGT, Int.reduceGE, Int.reduceToNat, ↓reduceIte, List.reduceReplicate, Nat.reduceAdd, Nat.reduceSub, Nat.reduceMul, Nat.reduceLT, Nat.reduceLeDiff, Nat.reduceBEq, Nat.reduceEqDiff]
    refine at_f (hrT _) spc_len hu (o := 0) (x := I (c.tlo T)) rfl fun ad7 => ?_
    simp (config := { maxSteps := 4000000 }) only [↓sx0, ↓sx1, ↓sx2, ↓sx3, ↓sx4, ↓sx5, ↓sx6, sx0, sx1, sx2, sx3, sx4, sx5, sx6, tf13, ev3_hold, sxo, sxc, sxp, sxq, sxr, sxs, sxl, sxm, Int.reduceBEq, Int.reduceBNe, Int.reduceLT, Int.reduceLE, Int.reduceEq, Int.reduceGT, Int.reduceGE, Int.reduceToNat, ↓reduceIte, List.reduceReplicate, Nat.reduceAdd, Nat.reduceSub, Nat.reduceMul, Nat.reduceLT, Nat.reduceLeDiff, Nat.reduceBEq, Nat.reduceEqDiff, g1, e8]
    exact ⟨i + 1, _, rfl, (HImp.app _ _ _).trans ((HImp.app _ _ _).trans ((HImp.app _ _ _).trans (HImp.app _ _ _))), ⟨by omega, rfl⟩, by omega⟩
  have g1 : (ht ≥ c.tlo T) = True := eq_true w1
  by_cases w2 : ht ≤ c.thi T
  case neg =>
    have g2 : (ht ≤ c.thi T) = False := eq_false w2
    simp (config := { maxSteps := 4000000 }) only [↓sx0, ↓sx1, ↓sx2, ↓sx3, ↓sx4, ↓sx5, ↓sx6, sx0, sx1, sx2, sx3, sx4, sx5, sx6, tf13, ev3_hold, sxo, sxc, sxp, sxq, sxr, sxs, sxl, sxm, Int.reduceBEq, Int.reduceBNe, Int.reduceLT, Int.reduceLE, Int.reduceEq, Int.reduceGT, Int.reduceGE, Int.reduceToNat, ↓reduceIte, List.reduceReplicate, Nat.reduceAdd, Nat.reduceSub, Nat.reduceMul, Nat.reduceLT, Nat.reduceLeDiff, Nat.reduceBEq, Nat.reduceEqDiff]
    refine at_f (hrT _) spc_len hu (o := 0) (x := I (c.tlo T)) rfl fun ad7 => ?_
    simp (config := { maxSteps := 4000000 }) only [↓sx0, ↓sx1, ↓sx2, ↓sx3, ↓sx4, ↓sx5, ↓sx6, sx0, sx1, sx2, sx3, sx4, sx5, sx6, tf13, ev3_hold, sxo, sxc, sxp, sxq, sxr, sxs, sxl, sxm, Int.reduceBEq, Int.reduceBNe, Int.reduceLT, Int.reduceLE, Int.reduceEq, Int.reduceGT, Int.reduceGE, Int.reduceToNat, ↓reduceIte, List.reduceReplicate, Nat.reduceAdd, Nat.reduceSub, Nat.reduceMul, Nat.reduceLT, Nat.reduceLeDiff, Nat.reduceBEq, Nat.reduceEqDiff, g1]
    refine at_f (hrT _) spc_len hu (o := 1) (x := I (c.thi T)) rfl fun ad8 => ?_
    simp (config := { maxSteps := 4000000 }) only [↓sx0, ↓sx1, ↓sx2, ↓sx3, ↓sx4, ↓sx5, ↓sx6, sx0, sx1, sx2, sx3, sx4, sx5, sx6, tf13, ev3_hold, sxo, sxc, sxp, sxq, sxr, sxs, sxl, sxm, Int.reduceBEq, Int.reduceBNe, Int.reduceLT, Int.reduceLE, Int.reduceEq, Int.reduceGT, Int.reduceGE, Int.reduceToNat, ↓reduceIte, List.reduceReplicate, Nat.reduceAdd, Nat.reduceSub, Nat.reduceMul, Nat.reduceLT, Nat.reduceLeDiff, Nat.reduceBEq, Nat.reduceEqDiff, g2, e8]
    exact ⟨i + 1, _, rfl, (HImp.app _ _ _).trans ((HImp.app _ _ _).trans ((HImp.app _ _ _).trans (HImp.app _ _ _))), ⟨by omega, rfl⟩, by omega⟩
  have g2 : (ht ≤ c.thi T) = True := eq_true w2
  have hov1 := hov ht (by omega)
  have ho1 : c.over K T ht ≤ dpt c K T := by unfold Cht.over at hde ⊢; omega
  have ho2 : -2000 ≤ c.over K T ht := by unfold Cht.over; omega
  have hu2 := hmu _ ho1
  have hl2 := hlow _ ho2
  have f4 : IntKind.i64.wrap (u * c.over K T ht) = u * c.over K T ht := wrap_id (by omega)
  have f5 : IntKind.i64.wrap (z * ((dst c.W c.H K i : Nat) : Int) + c.over K T ht) = z * ((dst c.W c.H K i : Nat) : Int) + c.over K T ht := wrap_id (by omega)
  have q6 : (M < u * c.over K T ht) = False := eq_false (by omega)
  have q7 : (M < z * ((dst c.W c.H K i : Nat) : Int) + c.over K T ht) = False := eq_false (by omega)
  simp (config := { maxSteps := 4000000 }) only [↓sx0, ↓sx1, ↓sx2, ↓sx3, ↓sx4, ↓sx5, ↓sx6, sx0, sx1, sx2, sx3, sx4, sx5, sx6, tf13, ev3_hold, sxo, sxc, sxp, sxq, sxr, sxs, sxl, sxm, Int.reduceBEq, Int.reduceBNe, Int.reduceLT, Int.reduceLE, Int.reduceEq, Int.reduceGT, Int.reduceGE, Int.reduceToNat, ↓reduceIte, List.reduceReplicate, Nat.reduceAdd, Nat.reduceSub, Nat.reduceMul, Nat.reduceLT, Nat.reduceLeDiff, Nat.reduceBEq, Nat.reduceEqDiff]
  refine at_f (hrT _) spc_len hu (o := 0) (x := I (c.tlo T)) rfl fun ad7 => ?_
  simp (config := { maxSteps := 4000000 }) only [↓sx0, ↓sx1, ↓sx2, ↓sx3, ↓sx4, ↓sx5, ↓sx6, sx0, sx1, sx2, sx3, sx4, sx5, sx6, tf13, ev3_hold, sxo, sxc, sxp, sxq, sxr, sxs, sxl, sxm, Int.reduceBEq, Int.reduceBNe, Int.reduceLT, Int.reduceLE, Int.reduceEq, Int.reduceGT, Int.reduceGE, Int.reduceToNat, ↓reduceIte, List.reduceReplicate, Nat.reduceAdd, Nat.reduceSub, Nat.reduceMul, Nat.reduceLT, Nat.reduceLeDiff, Nat.reduceBEq, Nat.reduceEqDiff, g1]
  refine at_f (hrT _) spc_len hu (o := 1) (x := I (c.thi T)) rfl fun ad8 => ?_
  simp (config := { maxSteps := 4000000 }) only [↓sx0, ↓sx1, ↓sx2, ↓sx3, ↓sx4, ↓sx5, ↓sx6, sx0, sx1, sx2, sx3, sx4, sx5, sx6, tf13, ev3_hold, sxo, sxc, sxp, sxq, sxr, sxs, sxl, sxm, Int.reduceBEq, Int.reduceBNe, Int.reduceLT, Int.reduceLE, Int.reduceEq, Int.reduceGT, Int.reduceGE, Int.reduceToNat, ↓reduceIte, List.reduceReplicate, Nat.reduceAdd, Nat.reduceSub, Nat.reduceMul, Nat.reduceLT, Nat.reduceLeDiff, Nat.reduceBEq, Nat.reduceEqDiff, g2, hov1, e7]
  refine amid (at_1 (hrV _ hn2b) i1_len hui rfl fun ad9 => ?_)
  simp (config := { maxSteps := 4000000 }) only [↓sx0, ↓sx1, ↓sx2, ↓sx3, ↓sx4, ↓sx5, ↓sx6, sx0, sx1, sx2, sx3, sx4, sx5, sx6, tf13, ev3_hold, sxo, sxc, sxp, sxq, sxr, sxs, sxl, sxm, Int.reduceBEq, Int.reduceBNe, Int.reduceLT, Int.reduceLE, Int.reduceEq, Int.reduceGT, Int.reduceGE, Int.reduceToNat, ↓reduceIte, List.reduceReplicate, Nat.reduceAdd, Nat.reduceSub, Nat.reduceMul, Nat.reduceLT, Nat.reduceLeDiff, Nat.reduceBEq, Nat.reduceEqDiff, f4, q6, e7]
  refine amid (at_1 (hrV _ hn2b) i1_len hui rfl fun ad10 => ?_)
  simp (config := { maxSteps := 4000000 }) only [↓sx0, ↓sx1, ↓sx2, ↓sx3, ↓sx4, ↓sx5, ↓sx6, sx0, sx1, sx2, sx3, sx4, sx5, sx6, tf13, ev3_hold, sxo, sxc, sxp, sxq, sxr, sxs, sxl, sxm, Int.reduceBEq, Int.reduceBNe, Int.reduceLT, Int.reduceLE, Int.reduceEq, Int.reduceGT, Int.reduceGE, Int.reduceToNat, ↓reduceIte, List.reduceReplicate, Nat.reduceAdd, Nat.reduceSub, Nat.reduceMul, Nat.reduceLT, Nat.reduceLeDiff, Nat.reduceBEq, Nat.reduceEqDiff, f2, f5, q7, e8]
  exact ⟨i + 1, _, rfl, (HImp.app _ _ _).trans ((HImp.app _ _ _).trans ((HImp.app _ _ _).trans (HImp.app _ _ _))), ⟨by omega, rfl⟩, by omega⟩

end Go.Proofs.YtcnjhgnlcnmagaaDoor
