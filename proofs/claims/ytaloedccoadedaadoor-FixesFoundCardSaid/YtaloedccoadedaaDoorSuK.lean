/- A part of a proof: the symbolic walk and what it shows of single functions. -/
import Derived.Test.YtaloedccoadedaaDoorSuK0
set_option linter.all false
namespace Go.Proofs.YtaloedccoadedaaDoor
open Go.RowKit Go.SX
set_option maxRecDepth 20000
set_option maxHeartbeats 0
set_option linter.unusedSimpArgs false
set_option linter.unusedVariables false
theorem fixesFound_fn (w : World) (hw : Ways w) (hb : Deb w) (v : Value) (d : Dis) (hd : DsOk w v d) (vl : Value) (L : List Int) (hL : Sl w vl 1 (ints L)) (r : Rep) : SX.Fn Tryd.prog 7 [v, vl, rpv r] w (fun _ => False) fun q N => q = .bool true := by
  obtain ⟨aL, nL, cL, rfl⟩ := hL.shape
  have hnL := hL.le i1_len (by omega)
  subst hnL
  have hL0 := hL
  have hrL := fun H => hL.rd0 H
  have hd0 := hd
  have hwk := fun (H : List HO) w' (hp : Hp ⟨w, fun _ => False⟩ H w') => works3_fn w' (hw.hp hp) (hb.hp hp)
  have hva := fun (H : List HO) w' (hp : Hp ⟨w, fun _ => False⟩ H w') => vague_fn w' (hw.hp hp) v d (hd0.hp hp)
  have hck := fun (hs : d.small) (H : List HO) w' (hp : Hp ⟨w, fun _ => False⟩ H w') => rcheck3_fn w' (hw.hp hp) v d (hd0.hp hp) hs
  have hwh := fun (hs : d.small) (t : Int) (H : List HO) w' (hp : Hp ⟨w, fun _ => False⟩ H w') => where_fn w' (hw.hp hp) v d (hd0.hp hp) hs t
  have hcd := fun (hs : d.small) (H : List HO) w' (hp : Hp ⟨w, fun _ => False⟩ H w') => course_fn w' (hw.hp hp) v d (hd0.hp hp) hs
  have hcp := fun (hf : d.few) (H : List HO) w' (hp : Hp ⟨w, fun _ => False⟩ H w') => copy3_fn w' v d (hd0.hp hp) hf
  have hvq := fun (q : Dis) (v' : Value) (w' : World) (hp : Ways w') (h : DsOk w' v' q) => vague_fn w' hp v' q h
  have hcq := fun (q : Dis) (hs : q.small) (v' : Value) (w' : World) (hp : Ways w') (h : DsOk w' v' q) => rcheck3_fn w' hp v' q h hs
  have hwq := fun (q : Dis) (hs : q.small) (v' : Value) (w' : World) (hp : Ways w') (h : DsOk w' v' q) (t : Int) => where_fn w' hp v' q h hs t
  have hdb := fun (hE : d.E = 0) (vc : Value) (L : List Int) (H : List HO) w' (hp : Hp ⟨w, fun _ => False⟩ H w') (hL : Sl w' vc 1 (ints L)) => doubted_any w' (hw.hp hp) v vc d (hd0.hp hp) hE L hL
  have hin := fun (w' : World) (u : Value) (l : List Int) (x : Int) (h : Sl w' u 1 (ints l)) (hl : l.length ≤ 1000000) => in3_fn w' u l x h hl
  have hW2 : ∀ (H : List HO) (w' : World), Hp ⟨w, fun _ => False⟩ H w' → Ways w' := fun H w' hp => hw.hp hp
  obtain ⟨sD, sT, sS, sR, rfl, hc, hsR⟩ := hd
  have hD := detR_ok (X := fun _ => False) hw hc (fun _ _ => id)
  have hc0 := hc
  obtain ⟨_, _, _, hh, hsD, hsT, hsS⟩ := hc
  cases hh
  obtain ⟨aT, nT, cT, rfl⟩ := hsT.shape
  obtain ⟨aR, nR, cR, rfl⟩ := hsR.shape
  have hnT := hsT.le spc_len (by omega)
  have hnR := hsR.le rpc_len (by omega)
  subst hnT hnR
  have hU : (∀ n, detR (.agg #[I d.c.wide, I d.c.high, sD, .slice aT d.c.tide.length cT, sS]) d.c 36 [.agg #[I d.c.wide, I d.c.high, sD, .slice aT d.c.tide.length cT, sS], I n] = some (.bool (inB n 0 (wr ((d.c.tide.length : Int) - 1))))) ∧ (∀ n, detR (.agg #[I d.c.wide, I d.c.high, sD, .slice aT d.c.tide.length cT, sS]) d.c 40 [.agg #[I d.c.wide, I d.c.high, sD, .slice aT d.c.tide.length cT, sS], I n] = some (.bool (isCellB d.c.wide d.c.high n))) := ⟨fun _ => rfl, fun _ => rfl⟩
  have dn : (∀ xs, detR (.agg #[I d.c.wide, I d.c.high, sD, .slice aT d.c.tide.length cT, sS]) d.c 13 xs = none) ∧ (∀ xs, detR (.agg #[I d.c.wide, I d.c.high, sD, .slice aT d.c.tide.length cT, sS]) d.c 15 xs = none) ∧ (∀ xs, detR (.agg #[I d.c.wide, I d.c.high, sD, .slice aT d.c.tide.length cT, sS]) d.c 14 xs = none) ∧ (∀ xs, detR (.agg #[I d.c.wide, I d.c.high, sD, .slice aT d.c.tide.length cT, sS]) d.c 17 xs = none) ∧ (∀ xs, detR (.agg #[I d.c.wide, I d.c.high, sD, .slice aT d.c.tide.length cT, sS]) d.c 33 xs = none) ∧ (∀ xs, detR (.agg #[I d.c.wide, I d.c.high, sD, .slice aT d.c.tide.length cT, sS]) d.c 34 xs = none) ∧ (∀ xs, detR (.agg #[I d.c.wide, I d.c.high, sD, .slice aT d.c.tide.length cT, sS]) d.c 20 xs = none) ∧ (∀ xs, detR (.agg #[I d.c.wide, I d.c.high, sD, .slice aT d.c.tide.length cT, sS]) d.c 29 xs = none) ∧ (∀ xs, detR (.agg #[I d.c.wide, I d.c.high, sD, .slice aT d.c.tide.length cT, sS]) d.c 35 xs = none) := ⟨fun _ => rfl, fun _ => rfl, fun _ => rfl, fun _ => rfl, fun _ => rfl, fun _ => rfl, fun _ => rfl, fun _ => rfl, fun _ => rfl⟩
  obtain ⟨x1, x2, x3, x4, x5, x6, x7, x8, x9⟩ := r
  simp only [rpv]
  refine walkC [9, 32, 35, 41, 57, 61, 67] [] [] hD Tryd.func7 rfl Tryd.ntmps7 res7 (by kernel_rfl) no_facts ?_
  simp (config := { maxSteps := 4000000 }) only [↓sx0, ↓sx1, ↓sx2, ↓sx3, ↓sx4, ↓sx5, ↓sx6, sx0, sx1, sx2, sx3, sx4, sx5, sx6, tf7, ev3_hold, sxo, sxc, sxp, sxq, sxr, sxs, sxl, sxm, Int.reduceBEq, Int.reduceBNe, Int.reduceLT, Int.reduceLE, Int.reduceEq, Int.reduceGT, Int.reduceGE, Int.reduceToNat, ↓reduceIte, List.reduceReplicate, Nat.reduceAdd, Nat.reduceSub, Nat.reduceMul, Nat.reduceLT, Nat.reduceLeDiff, Nat.reduceBEq, Nat.reduceEqDiff, dn]
  refine CallOb.pureH (fun w' hp => hva _ w' hp) ?_
  rintro q N ⟨b, rfl, hb1⟩
  cases b with
  | true =>
    refine ⟨?_⟩
    simp (config := { maxSteps := 4000000 }) only [↓sx0, ↓sx1, ↓sx2, ↓sx3, ↓sx4, ↓sx5, ↓sx6, sx0, sx1, sx2, sx3, sx4, sx5, sx6, tf7, ev3_hold, sxo, sxc, sxp, sxq, sxr, sxs, sxl, sxm, Int.reduceBEq, Int.reduceBNe, Int.reduceLT, Int.reduceLE, Int.reduceEq, Int.reduceGT, Int.reduceGE, Int.reduceToNat, ↓reduceIte, List.reduceReplicate, Nat.reduceAdd, Nat.reduceSub, Nat.reduceMul, Nat.reduceLT, Nat.reduceLeDiff, Nat.reduceBEq, Nat.reduceEqDiff, dn]
    refine CallOb.pureH (fun w' hp => hwk _ w' hp) ?_
    rintro q N2 rfl
    refine ⟨?_⟩
    simp (config := { maxSteps := 4000000 }) only [↓sx0, ↓sx1, ↓sx2, ↓sx3, ↓sx4, ↓sx5, ↓sx6, sx0, sx1, sx2, sx3, sx4, sx5, sx6, tf7, ev3_hold, sxo, sxc, sxp, sxq, sxr, sxs, sxl, sxm, Int.reduceBEq, Int.reduceBNe, Int.reduceLT, Int.reduceLE, Int.reduceEq, Int.reduceGT, Int.reduceGE, Int.reduceToNat, ↓reduceIte, List.reduceReplicate, Nat.reduceAdd, Nat.reduceSub, Nat.reduceMul, Nat.reduceLT, Nat.reduceLeDiff, Nat.reduceBEq, Nat.reduceEqDiff]
  | false =>
  have hfew := hb1 rfl
  have hsm := hfew.small
  refine ⟨?_⟩
  simp (config := { maxSteps := 4000000 }) only [↓sx0, ↓sx1, ↓sx2, ↓sx3, ↓sx4, ↓sx5, ↓sx6, sx0, sx1, sx2, sx3, sx4, sx5, sx6, tf7, ev3_hold, sxo, sxc, sxp, sxq, sxr, sxs, sxl, sxm, Int.reduceBEq, Int.reduceBNe, Int.reduceLT, Int.reduceLE, Int.reduceEq, Int.reduceGT, Int.reduceGE, Int.reduceToNat, ↓reduceIte, List.reduceReplicate, Nat.reduceAdd, Nat.reduceSub, Nat.reduceMul, Nat.reduceLT, Nat.reduceLeDiff, Nat.reduceBEq, Nat.reduceEqDiff, dn]
  refine CallOb.pureH (fun w' hp => hck hsm _ w' hp) ?_
  rintro q N2 rfl
  by_cases hE : d.E = 0
  case neg =>
    have p1 : (d.E = 0) = False := eq_false hE
    refine ⟨?_⟩
    simp (config := { maxSteps := 4000000 }) only [↓sx0, ↓sx1, ↓sx2, ↓sx3, ↓sx4, ↓sx5, ↓sx6, sx0, sx1, sx2, sx3, sx4, sx5, sx6, tf7, ev3_hold, sxo, sxc, sxp, sxq, sxr, sxs, sxl, sxm, Int.reduceBEq, Int.reduceBNe, Int.reduceLT, Int.reduceLE, Int.reduceEq, Int.reduceGT, Int.reduceGE, Int.reduceToNat, ↓reduceIte, List.reduceReplicate, Nat.reduceAdd, Nat.reduceSub, Nat.reduceMul, Nat.reduceLT, Nat.reduceLeDiff, Nat.reduceBEq, Nat.reduceEqDiff, p1, dn]
    refine CallOb.pureH (fun w' hp => hwk _ w' hp) ?_
    rintro q N2 rfl
    refine ⟨?_⟩
    simp (config := { maxSteps := 4000000 }) only [↓sx0, ↓sx1, ↓sx2, ↓sx3, ↓sx4, ↓sx5, ↓sx6, sx0, sx1, sx2, sx3, sx4, sx5, sx6, tf7, ev3_hold, sxo, sxc, sxp, sxq, sxr, sxs, sxl, sxm, Int.reduceBEq, Int.reduceBNe, Int.reduceLT, Int.reduceLE, Int.reduceEq, Int.reduceGT, Int.reduceGE, Int.reduceToNat, ↓reduceIte, List.reduceReplicate, Nat.reduceAdd, Nat.reduceSub, Nat.reduceMul, Nat.reduceLT, Nat.reduceLeDiff, Nat.reduceBEq, Nat.reduceEqDiff]
  have p1 : (d.E = 0) = True := eq_true hE
  obtain ⟨hok, _, _, hm12, _⟩ := Dis.E_zero hE
  obtain ⟨h20, h6, hr6⟩ := hfew.2.2 hE
  have hm10 : d.rs.length ≤ 10 := by omega
  have hcell : ∀ n, isCellB d.c.wide d.c.high n = inB n 0 ((d.c.depth.length : Int) - 1) := fun n => by rw [isCell_iff hok]; unfold notCell; rw [Bool.not_not]
  have e1 : wr ((d.c.tide.length : Int) - 1) = (d.c.tide.length : Int) - 1 := wrap_id (by omega)
  have hfl := fun (k t : Nat) (hk : k < d.c.depth.length) (ht : t < d.c.tide.length) (H : List HO) w' (hp : Hp ⟨w, fun _ => False⟩ H w') => floats_at w' _ d.c (hc0.hp hp) hsm.1 hok (Dis.E_zero hE).2.1 hk ht
  have hcd := hcd hsm
  have hwh := fun t (ht : t < d.c.tide.length) => hwh hsm (t : Nat)
  have hwhP : ∀ t q N, t < d.c.tide.length → WhereP d (t : Nat) q N → ∃ x, q = .tuple #[x, I (if (d.crs pAll).least < NV then 0 else 3)] ∧ Got x 3 1 i1 (zs (d.whrL t)) N := fun t q N ht h => by
    obtain ⟨x, h1, h2⟩ := h
    rw [Dis.E2_nil hE ht, if_pos rfl] at h1 h2
    refine ⟨x, ?_, h2⟩
    rw [h1]
    by_cases hl : (d.crs pAll).least < NV
    · rw [if_pos hl, if_neg (fun h => (Dis.whr_nil hE ht).1 h hl)]
    · rw [if_neg hl, if_pos ((Dis.whr_nil hE ht).2 hl)]
  have hcdP : ∀ q N, CourseP d q N → ∃ x, q = .tuple #[x, I (if (d.crs pAll).least < NV then 0 else 3)] ∧ Got x 3 1 i1 (if (d.crs pAll).least < NV then zs (d.crs pAll).first else []) N := fun q N ⟨x, h1, h2⟩ => ⟨x, by rw [h1, if_pos hE], by simpa only [hE, true_and] using h2⟩
  have hmay := fun (hl : (d.crs pAll).least < NV) t (ht : t < d.c.tide.length) => Dis.first_may hE hl ht
  have hfd : (d.crs pAll).least < NV → d.allB (zs (d.crs pAll).first) ∧ (d.crs pAll).first.length = d.c.tide.length := fun hl => by
    obtain ⟨f1, f2⟩ := Dis.first_tru hE hl
    exact ⟨⟨_, rfl, f1, f2⟩, f1.1⟩
  have hwlen : ∀ t, (d.whrL t).length ≤ 20 := fun t => by
    unfold Dis.whrL chpL
    exact Nat.le_trans (List.length_filter_le _ _) (by rw [List.length_range]; exact h20)
  have hall := fun h => Dis.allB_what hE (L := L) h
  obtain ⟨AL, hAL⟩ : ∃ AL : Bool, AL = true ↔ d.allB L := by
    by_cases h : d.allB L
    · exact ⟨true, fun _ => h, fun _ => rfl⟩
    · exact ⟨false, fun h => (by cases h), fun h2 => absurd h2 h⟩
  obtain ⟨F, hF⟩ : ∃ F, (d.crs pAll).first = F := ⟨_, rfl⟩
  obtain ⟨e, he⟩ : ∃ e : Int, (if (d.crs pAll).least < NV then 0 else 3) = e := ⟨_, rfl⟩
  have hee : (e = 0 ∧ (d.crs pAll).least < NV) ∨ (e = 3 ∧ ¬ (d.crs pAll).least < NV) := by
    rw [← he]
    by_cases h : (d.crs pAll).least < NV
    · exact .inl ⟨if_pos h, h⟩
    · exact .inr ⟨if_neg h, h⟩
  rw [he] at hcdP
  simp only [he] at hwhP
  simp only [hF] at hcdP hmay hfd hall
  have hql : d.rs.length < 12 ∨ ¬ d.rs.length < 12 := Nat.lt_or_ge _ _ |>.imp id Nat.not_lt.2
  refine ⟨?_⟩
  simp (config := { maxSteps := 4000000 }) only [↓sx0, ↓sx1, ↓sx2, ↓sx3, ↓sx4, ↓sx5, ↓sx6, sx0, sx1, sx2, sx3, sx4, sx5, sx6, tf7, ev3_hold, sxo, sxc, sxp, sxq, sxr, sxs, sxl, sxm, Int.reduceBEq, Int.reduceBNe, Int.reduceLT, Int.reduceLE, Int.reduceEq, Int.reduceGT, Int.reduceGE, Int.reduceToNat, ↓reduceIte, List.reduceReplicate, Nat.reduceAdd, Nat.reduceSub, Nat.reduceMul, Nat.reduceLT, Nat.reduceLeDiff, Nat.reduceBEq, Nat.reduceEqDiff, p1, dn]
  refine CallOb.pureH (fun w' hp => hcd _ w' hp) ?_
  intro q N3 hq
  obtain ⟨xo, rfl, hGo⟩ := hcdP q N3 hq
  obtain ⟨K, hK⟩ : ∃ K, N3 ++ (N2 ++ N) = K := ⟨_, rfl⟩
  have hGo : (d.crs pAll).least < NV → Got xo 3 1 i1 (zs F) K := fun h => by
    rw [if_pos h] at hGo
    exact hGo.mono (fun h hh => by rw [← hK]; simp [hh])
  have hxo : ∃ a n c, xo = .slice a n c := by
    obtain ⟨x, h, _⟩ := hq
    obtain ⟨a, c, h2⟩ := (show Got xo 3 1 i1 _ N3 from ‹_›).shape
    exact ⟨a, _, c, h2⟩
  obtain ⟨ao, no, co, rfl⟩ := hxo
  rw [hK]
  have z3 : (e = e) = True := eq_true rfl
  refine ⟨?_⟩
  simp (config := { maxSteps := 4000000 }) only [↓sx0, ↓sx1, ↓sx2, ↓sx3, ↓sx4, ↓sx5, ↓sx6, sx0, sx1, sx2, sx3, sx4, sx5, sx6, tf7, ev3_hold, sxo, sxc, sxp, sxq, sxr, sxs, sxl, sxm, Int.reduceBEq, Int.reduceBNe, Int.reduceLT, Int.reduceLE, Int.reduceEq, Int.reduceGT, Int.reduceGE, Int.reduceToNat, ↓reduceIte, List.reduceReplicate, Nat.reduceAdd, Nat.reduceSub, Nat.reduceMul, Nat.reduceLT, Nat.reduceLeDiff, Nat.reduceBEq, Nat.reduceEqDiff]
  refine cut_constH [(42, 47)] (fun _ : Unit => [(47, .bool false)]) (fun _ H2 => H2 = K) ?_ ?_
  · rcases hee with ⟨rfl, _⟩ | ⟨rfl, _⟩
    · refine ⟨?_⟩
      simp (config := { maxSteps := 4000000 }) only [↓sx0, ↓sx1, ↓sx2, ↓sx3, ↓sx4, ↓sx5, ↓sx6, sx0, sx1, sx2, sx3, sx4, sx5, sx6, tf7, ev3_hold, sxo, sxc, sxp, sxq, sxr, sxs, sxl, sxm, Int.reduceBEq, Int.reduceBNe, Int.reduceLT, Int.reduceLE, Int.reduceEq, Int.reduceGT, Int.reduceGE, Int.reduceToNat, ↓reduceIte, List.reduceReplicate, Nat.reduceAdd, Nat.reduceSub, Nat.reduceMul, Nat.reduceLT, Nat.reduceLeDiff, Nat.reduceBEq, Nat.reduceEqDiff]
      exact ⟨(), _, HImp.refl _ _, rfl⟩
    · refine ⟨?_⟩
      simp (config := { maxSteps := 4000000 }) only [↓sx0, ↓sx1, ↓sx2, ↓sx3, ↓sx4, ↓sx5, ↓sx6, sx0, sx1, sx2, sx3, sx4, sx5, sx6, tf7, ev3_hold, sxo, sxc, sxp, sxq, sxr, sxs, sxl, sxm, Int.reduceBEq, Int.reduceBNe, Int.reduceLT, Int.reduceLE, Int.reduceEq, Int.reduceGT, Int.reduceGE, Int.reduceToNat, ↓reduceIte, List.reduceReplicate, Nat.reduceAdd, Nat.reduceSub, Nat.reduceMul, Nat.reduceLT, Nat.reduceLeDiff, Nat.reduceBEq, Nat.reduceEqDiff]
      exact ⟨(), _, HImp.refl _ _, rfl⟩
  rintro _ H2 g2 rfl
  refine ⟨?_⟩
  simp (config := { maxSteps := 4000000 }) only [↓sx0, ↓sx1, ↓sx2, ↓sx3, ↓sx4, ↓sx5, ↓sx6, sx0, sx1, sx2, sx3, sx4, sx5, sx6, tf7, ev3_hold, sxo, sxc, sxp, sxq, sxr, sxs, sxl, sxm, Int.reduceBEq, Int.reduceBNe, Int.reduceLT, Int.reduceLE, Int.reduceEq, Int.reduceGT, Int.reduceGE, Int.reduceToNat, ↓reduceIte, List.reduceReplicate, Nat.reduceAdd, Nat.reduceSub, Nat.reduceMul, Nat.reduceLT, Nat.reduceLeDiff, Nat.reduceBEq, Nat.reduceEqDiff]
  refine cut_constH [(6, 6), (9, 15), (48, 92)] (fun _ : Unit => []) (fun _ H3 => H3 = H2) ?_ ?_
  · rcases hee with ⟨rfl, hl⟩ | ⟨rfl, _⟩
    case inr =>
      refine ⟨?_⟩
      simp (config := { maxSteps := 4000000 }) only [↓sx0, ↓sx1, ↓sx2, ↓sx3, ↓sx4, ↓sx5, ↓sx6, sx0, sx1, sx2, sx3, sx4, sx5, sx6, tf7, ev3_hold, sxo, sxc, sxp, sxq, sxr, sxs, sxl, sxm, Int.reduceBEq, Int.reduceBNe, Int.reduceLT, Int.reduceLE, Int.reduceEq, Int.reduceGT, Int.reduceGE, Int.reduceToNat, ↓reduceIte, List.reduceReplicate, Nat.reduceAdd, Nat.reduceSub, Nat.reduceMul, Nat.reduceLT, Nat.reduceLeDiff, Nat.reduceBEq, Nat.reduceEqDiff]
      exact ⟨(), _, HImp.refl _ _, rfl⟩
    have hGo := hGo hl
    have hmay := hmay hl
    obtain ⟨hf1, hf2⟩ := hfd hl
    have hFl := zs_len F
    have hno : no = (zs F).length := by
      obtain ⟨a, c, h⟩ := hGo.shape
      injection h
    subst hno
    have hdF := hdb hE (.slice ao (zs F).length co) (zs F)
    refine ⟨?_⟩
    simp (config := { maxSteps := 4000000 }) only [↓sx0, ↓sx1, ↓sx2, ↓sx3, ↓sx4, ↓sx5, ↓sx6, sx0, sx1, sx2, sx3, sx4, sx5, sx6, tf7, ev3_hold, sxo, sxc, sxp, sxq, sxr, sxs, sxl, sxm, Int.reduceBEq, Int.reduceBNe, Int.reduceLT, Int.reduceLE, Int.reduceEq, Int.reduceGT, Int.reduceGE, Int.reduceToNat, ↓reduceIte, List.reduceReplicate, Nat.reduceAdd, Nat.reduceSub, Nat.reduceMul, Nat.reduceLT, Nat.reduceLeDiff, Nat.reduceBEq, Nat.reduceEqDiff, dn]
    refine CallOb.pureH (fun w' hp => hdF _ w' hp (hGo.hp (fun h hh => hh) hp)) ?_
    intro q N4 hq
    obtain ⟨n, p, s, rfl, hnps⟩ := hq.all hE
    obtain ⟨rfl, rfl, rfl⟩ := hnps.2 hf1
    refine ⟨?_⟩
    simp (config := { maxSteps := 4000000 }) only [↓sx0, ↓sx1, ↓sx2, ↓sx3, ↓sx4, ↓sx5, ↓sx6, sx0, sx1, sx2, sx3, sx4, sx5, sx6, tf7, ev3_hold, sxo, sxc, sxp, sxq, sxr, sxs, sxl, sxm, Int.reduceBEq, Int.reduceBNe, Int.reduceLT, Int.reduceLE, Int.reduceEq, Int.reduceGT, Int.reduceGE, Int.reduceToNat, ↓reduceIte, List.reduceReplicate, Nat.reduceAdd, Nat.reduceSub, Nat.reduceMul, Nat.reduceLT, Nat.reduceLeDiff, Nat.reduceBEq, Nat.reduceEqDiff]
    refine loop_constH (N4 ++ H2) (HImp.refl _ _) [(6, 6), (12, 15), (67, 92)] (fun t : Nat => [(12, I t)]) (fun t H1 => t ≤ F.length ∧ H1 = N4 ++ H2) (fun t => F.length - t) 0 ?_ ⟨Nat.zero_le _, rfl⟩ ?_
    · simp (config := { maxSteps := 4000000 }) only [↓sx0, ↓sx1, ↓sx2, ↓sx3, ↓sx4, ↓sx5, ↓sx6, sx0, sx1, sx2, sx3, sx4, sx5, sx6, tf7, ev3_hold, sxo, sxc, sxp, sxq, sxr, sxs, sxl, sxm, Int.reduceBEq, Int.reduceBNe, Int.reduceLT, Int.reduceLE, Int.reduceEq, Int.reduceGT, Int.reduceGE, Int.reduceToNat, ↓reduceIte, List.reduceReplicate, Nat.reduceAdd, Nat.reduceSub, Nat.reduceMul, Nat.reduceLT, Nat.reduceLeDiff, Nat.reduceBEq, Nat.reduceEqDiff]
      try simp
    rintro t H1 g1 ⟨ht, rfl⟩
    by_cases htn : t = F.length
    · have e7 : ((t : Int) < ((zs F).length : Int)) = False := eq_false (by omega)
      refine ⟨?_⟩
      simp (config := { maxSteps := 4000000 }) only [↓sx0, ↓sx1, ↓sx2, ↓sx3, ↓sx4, ↓sx5, ↓sx6, sx0, sx1, sx2, sx3, sx4, sx5, sx6, tf7, ev3_hold, sxo, sxc, sxp, sxq, sxr, sxs, sxl, sxm, Int.reduceBEq, Int.reduceBNe, Int.reduceLT, Int.reduceLE, Int.reduceEq, Int.reduceGT, Int.reduceGE, Int.reduceToNat, ↓reduceIte, List.reduceReplicate, Nat.reduceAdd, Nat.reduceSub, Nat.reduceMul, Nat.reduceLT, Nat.reduceLeDiff, Nat.reduceBEq, Nat.reduceEqDiff, e7]
      exact ⟨(), _, HImp.app _ _ _, rfl⟩
    have e7 : ((t : Int) < ((zs F).length : Int)) = True := eq_true (by omega)
    have e8 : wr (t + 1) = ((t + 1 : Nat) : Int) := (wrap_id (by omega)).trans (by omega)
    obtain ⟨hk, hov⟩ := hmay t (by omega)
    have hFt := zs_get (getD_at (l := F) (k := t) (by omega) 0)
    obtain ⟨X, hX⟩ : ∃ X, F.getD t 0 = X := ⟨_, rfl⟩
    rw [hX] at hk hov hFt
    have hfl := fun (H : List HO) w' (hp : Hp ⟨w, fun _ => False⟩ H w') => hfl X t hk (by omega) H w' hp
    rw [decide_eq_true hov] at hfl
    refine ⟨?_⟩
    simp (config := { maxSteps := 4000000 }) only [↓sx0, ↓sx1, ↓sx2, ↓sx3, ↓sx4, ↓sx5, ↓sx6, sx0, sx1, sx2, sx3, sx4, sx5, sx6, tf7, ev3_hold, sxo, sxc, sxp, sxq, sxr, sxs, sxl, sxm, Int.reduceBEq, Int.reduceBNe, Int.reduceLT, Int.reduceLE, Int.reduceEq, Int.reduceGT, Int.reduceGE, Int.reduceToNat, ↓reduceIte, List.reduceReplicate, Nat.reduceAdd, Nat.reduceSub, Nat.reduceMul, Nat.reduceLT, Nat.reduceLeDiff, Nat.reduceBEq, Nat.reduceEqDiff, e7]
    refine amid (at_1 (hGo.rdv i1_len (fun h hh => by simp [hh])) i1_len hFt rfl fun ad => ?_)
    simp (config := { maxSteps := 4000000 }) only [↓sx0, ↓sx1, ↓sx2, ↓sx3, ↓sx4, ↓sx5, ↓sx6, sx0, sx1, sx2, sx3, sx4, sx5, sx6, tf7, ev3_hold, sxo, sxc, sxp, sxq, sxr, sxs, sxl, sxm, Int.reduceBEq, Int.reduceBNe, Int.reduceLT, Int.reduceLE, Int.reduceEq, Int.reduceGT, Int.reduceGE, Int.reduceToNat, ↓reduceIte, List.reduceReplicate, Nat.reduceAdd, Nat.reduceSub, Nat.reduceMul, Nat.reduceLT, Nat.reduceLeDiff, Nat.reduceBEq, Nat.reduceEqDiff, dn]
    refine CallOb.pureH (fun w' hp => hfl _ w' hp) ?_
    rintro q N5 rfl
    refine ⟨?_⟩
    simp (config := { maxSteps := 4000000 }) only [↓sx0, ↓sx1, ↓sx2, ↓sx3, ↓sx4, ↓sx5, ↓sx6, sx0, sx1, sx2, sx3, sx4, sx5, sx6, tf7, ev3_hold, sxo, sxc, sxp, sxq, sxr, sxs, sxl, sxm, Int.reduceBEq, Int.reduceBNe, Int.reduceLT, Int.reduceLE, Int.reduceEq, Int.reduceGT, Int.reduceGE, Int.reduceToNat, ↓reduceIte, List.reduceReplicate, Nat.reduceAdd, Nat.reduceSub, Nat.reduceMul, Nat.reduceLT, Nat.reduceLeDiff, Nat.reduceBEq, Nat.reduceEqDiff, e8]
    exact ⟨t + 1, _, rfl, HImp.app _ _ _, ⟨by omega, rfl⟩, by omega⟩
  rintro _ H3 g3 rfl
  have hdL := hdb hE (.slice aL L.length cL) L
  refine ⟨?_⟩
  simp (config := { maxSteps := 4000000 }) only [↓sx0, ↓sx1, ↓sx2, ↓sx3, ↓sx4, ↓sx5, ↓sx6, sx0, sx1, sx2, sx3, sx4, sx5, sx6, tf7, ev3_hold, sxo, sxc, sxp, sxq, sxr, sxs, sxl, sxm, Int.reduceBEq, Int.reduceBNe, Int.reduceLT, Int.reduceLE, Int.reduceEq, Int.reduceGT, Int.reduceGE, Int.reduceToNat, ↓reduceIte, List.reduceReplicate, Nat.reduceAdd, Nat.reduceSub, Nat.reduceMul, Nat.reduceLT, Nat.reduceLeDiff, Nat.reduceBEq, Nat.reduceEqDiff, dn]
  refine CallOb.pureH (fun w' hp => hdL _ w' hp (hL0.hp (fun _ _ => id) hp)) ?_
  intro q N4 hq
  obtain ⟨n, p, s, rfl, hnps⟩ := hq.all hE
  rw [← hAL] at hnps
  refine ⟨?_⟩
  simp (config := { maxSteps := 4000000 }) only [↓sx0, ↓sx1, ↓sx2, ↓sx3, ↓sx4, ↓sx5, ↓sx6, sx0, sx1, sx2, sx3, sx4, sx5, sx6, tf7, ev3_hold, sxo, sxc, sxp, sxq, sxr, sxs, sxl, sxm, Int.reduceBEq, Int.reduceBNe, Int.reduceLT, Int.reduceLE, Int.reduceEq, Int.reduceGT, Int.reduceGE, Int.reduceToNat, ↓reduceIte, List.reduceReplicate, Nat.reduceAdd, Nat.reduceSub, Nat.reduceMul, Nat.reduceLT, Nat.reduceLeDiff, Nat.reduceBEq, Nat.reduceEqDiff]
  refine cut_constH [(19, 19), (100, 107)] (fun _ : Unit => [(19, .bool AL)]) (fun _ H4 => H4 = H3) ?_ ?_
  · cases s with
    | false =>
      have hA : AL = false := by
        cases AL with
        | false => rfl
        | true => exact absurd (hnps.2 rfl).1 (by decide)
      refine ⟨?_⟩
      simp (config := { maxSteps := 4000000 }) only [↓sx0, ↓sx1, ↓sx2, ↓sx3, ↓sx4, ↓sx5, ↓sx6, sx0, sx1, sx2, sx3, sx4, sx5, sx6, tf7, ev3_hold, sxo, sxc, sxp, sxq, sxr, sxs, sxl, sxm, Int.reduceBEq, Int.reduceBNe, Int.reduceLT, Int.reduceLE, Int.reduceEq, Int.reduceGT, Int.reduceGE, Int.reduceToNat, ↓reduceIte, List.reduceReplicate, Nat.reduceAdd, Nat.reduceSub, Nat.reduceMul, Nat.reduceLT, Nat.reduceLeDiff, Nat.reduceBEq, Nat.reduceEqDiff, hA]
      exact ⟨(), _, HImp.app _ _ _, rfl⟩
    | true =>
    cases p with
    | false =>
      have hA : AL = false := by
        cases AL with
        | false => rfl
        | true => exact absurd (hnps.2 rfl).2.1 (by decide)
      refine ⟨?_⟩
      simp (config := { maxSteps := 4000000 }) only [↓sx0, ↓sx1, ↓sx2, ↓sx3, ↓sx4, ↓sx5, ↓sx6, sx0, sx1, sx2, sx3, sx4, sx5, sx6, tf7, ev3_hold, sxo, sxc, sxp, sxq, sxr, sxs, sxl, sxm, Int.reduceBEq, Int.reduceBNe, Int.reduceLT, Int.reduceLE, Int.reduceEq, Int.reduceGT, Int.reduceGE, Int.reduceToNat, ↓reduceIte, List.reduceReplicate, Nat.reduceAdd, Nat.reduceSub, Nat.reduceMul, Nat.reduceLT, Nat.reduceLeDiff, Nat.reduceBEq, Nat.reduceEqDiff, hA]
      exact ⟨(), _, HImp.app _ _ _, rfl⟩
    | true =>
    have hA : (n == 0) = AL := by
      cases AL with
      | true => exact beq_iff_eq.2 (hnps.2 rfl).2.2
      | false => exact beq_eq_false_iff_ne.2 fun h => by cases hnps.1 ⟨rfl, rfl, h⟩
    refine ⟨?_⟩
    simp (config := { maxSteps := 4000000 }) only [↓sx0, ↓sx1, ↓sx2, ↓sx3, ↓sx4, ↓sx5, ↓sx6, sx0, sx1, sx2, sx3, sx4, sx5, sx6, tf7, ev3_hold, sxo, sxc, sxp, sxq, sxr, sxs, sxl, sxm, Int.reduceBEq, Int.reduceBNe, Int.reduceLT, Int.reduceLE, Int.reduceEq, Int.reduceGT, Int.reduceGE, Int.reduceToNat, ↓reduceIte, List.reduceReplicate, Nat.reduceAdd, Nat.reduceSub, Nat.reduceMul, Nat.reduceLT, Nat.reduceLeDiff, Nat.reduceBEq, Nat.reduceEqDiff, hA]
    exact ⟨(), _, HImp.app _ _ _, rfl⟩
  rintro _ H4 g4 rfl
  refine ⟨?_⟩
  simp (config := { maxSteps := 4000000 }) only [↓sx0, ↓sx1, ↓sx2, ↓sx3, ↓sx4, ↓sx5, ↓sx6, sx0, sx1, sx2, sx3, sx4, sx5, sx6, tf7, ev3_hold, sxo, sxc, sxp, sxq, sxr, sxs, sxl, sxm, Int.reduceBEq, Int.reduceBNe, Int.reduceLT, Int.reduceLE, Int.reduceEq, Int.reduceGT, Int.reduceGE, Int.reduceToNat, ↓reduceIte, List.reduceReplicate, Nat.reduceAdd, Nat.reduceSub, Nat.reduceMul, Nat.reduceLT, Nat.reduceLeDiff, Nat.reduceBEq, Nat.reduceEqDiff, dn]
  refine CallOb.pureH (fun w' hp => hcp hfew _ w' hp) ?_
  intro q N5 hN
  obtain ⟨aq1, cq1, aq2, cq2, aq3, cq3, ad, cp, A, rfl, hA1, hA2⟩ := DsN.more (w0 := ⟨w, fun _ => False⟩) hN
  refine ⟨?_⟩
  simp (config := { maxSteps := 4000000 }) only [↓sx0, ↓sx1, ↓sx2, ↓sx3, ↓sx4, ↓sx5, ↓sx6, sx0, sx1, sx2, sx3, sx4, sx5, sx6, tf7, ev3_hold, sxo, sxc, sxp, sxq, sxr, sxs, sxl, sxm, Int.reduceBEq, Int.reduceBNe, Int.reduceLT, Int.reduceLE, Int.reduceEq, Int.reduceGT, Int.reduceGE, Int.reduceToNat, ↓reduceIte, List.reduceReplicate, Nat.reduceAdd, Nat.reduceSub, Nat.reduceMul, Nat.reduceLT, Nat.reduceLeDiff, Nat.reduceBEq, Nat.reduceEqDiff]
  intro b7
  refine app_one (f := rpc) (l := d.rs) ⟨x1, x2, x3, x4, x5, x6, x7, x8, x9⟩ (hA1 [] H4) rpc_len rpc_one (by omega) fun ad8 c8 => ?_
  have hQ : ∀ (H : List HO) (w' : World), HO.row (.slice (some ad8) (d.rs.length + 1) c8) 47 9 (cat rpc (d.rs ++ [⟨x1, x2, x3, x4, x5, x6, x7, x8, x9⟩])) ∈ H → (∀ h ∈ A, h ∈ H) → Hp ⟨w, fun _ => False⟩ H w' → DsOk w' (.agg #[I d.c.wide, I d.c.high, .slice aq1 d.c.depth.length cq1, .slice aq2 d.c.tide.length cq2, .slice aq3 d.c.swell.length cq3, I d.dr, I d.pc, .slice (some ad8) (d.rs.length + 1) c8]) (d.plus ⟨x1, x2, x3, x4, x5, x6, x7, x8, x9⟩) := fun H w' h1 h2 hp => by
    have h3 := hA2 (.slice (some ad8) (d.rs.length + 1) c8) (d.rs ++ [⟨x1, x2, x3, x4, x5, x6, x7, x8, x9⟩]) H ⟨some ad8, c8, by rw [List.length_append]; rfl, (fun h => by cases h), by rw [List.length_append]; exact h1⟩ h2
    exact h3.ok (fun h hh => hh) hp
  have hvq := hvq (d.plus (⟨x1, x2, x3, x4, x5, x6, x7, x8, x9⟩ : Rep))
  have hcq := hcq (d.plus (⟨x1, x2, x3, x4, x5, x6, x7, x8, x9⟩ : Rep))
  have hwq := hwq (d.plus (⟨x1, x2, x3, x4, x5, x6, x7, x8, x9⟩ : Rep))
  have hpw := fun (h : (d.plus (⟨x1, x2, x3, x4, x5, x6, x7, x8, x9⟩ : Rep)).E = 0) t x (ht : t < d.c.tide.length) => Dis.plus_whr (x := x) h ht
  have hwqP : ∀ t q N, (d.plus (⟨x1, x2, x3, x4, x5, x6, x7, x8, x9⟩ : Rep)).E = 0 → t < d.c.tide.length → WhereP (d.plus (⟨x1, x2, x3, x4, x5, x6, x7, x8, x9⟩ : Rep)) (t : Nat) q N → ∃ x, q = .tuple #[x, I (if (d.plus (⟨x1, x2, x3, x4, x5, x6, x7, x8, x9⟩ : Rep)).whrL t = [] then 3 else 0)] ∧ Got x 3 1 i1 (zs ((d.plus (⟨x1, x2, x3, x4, x5, x6, x7, x8, x9⟩ : Rep)).whrL t)) N := fun t q N h ht ⟨x, h1, h2⟩ => by
    rw [Dis.E2_nil h ht, if_pos rfl] at h1 h2
    exact ⟨x, h1, h2⟩
  have hqlen : ∀ t, (d.plus (⟨x1, x2, x3, x4, x5, x6, x7, x8, x9⟩ : Rep)).few → (d.plus (⟨x1, x2, x3, x4, x5, x6, x7, x8, x9⟩ : Rep)).E = 0 → ((d.plus (⟨x1, x2, x3, x4, x5, x6, x7, x8, x9⟩ : Rep)).whrL t).length ≤ 20 := fun t _ _ => by
    unfold Dis.whrL chpL
    exact Nat.le_trans (List.length_filter_le _ _) (by rw [List.length_range]; exact h20)
  simp (config := { maxSteps := 4000000 }) only [↓sx0, ↓sx1, ↓sx2, ↓sx3, ↓sx4, ↓sx5, ↓sx6, sx0, sx1, sx2, sx3, sx4, sx5, sx6, tf7, ev3_hold, sxo, sxc, sxp, sxq, sxr, sxs, sxl, sxm, Int.reduceBEq, Int.reduceBNe, Int.reduceLT, Int.reduceLE, Int.reduceEq, Int.reduceGT, Int.reduceGE, Int.reduceToNat, ↓reduceIte, List.reduceReplicate, Nat.reduceAdd, Nat.reduceSub, Nat.reduceMul, Nat.reduceLT, Nat.reduceLeDiff, Nat.reduceBEq, Nat.reduceEqDiff]
  refine cut_constH [(21, 21), (116, 123)] (fun b : Bool => [(21, .bool b)]) (fun b H5 => (b = true → (d.plus (⟨x1, x2, x3, x4, x5, x6, x7, x8, x9⟩ : Rep)).few ∧ (d.plus (⟨x1, x2, x3, x4, x5, x6, x7, x8, x9⟩ : Rep)).E = 0) ∧ HO.row (.slice (some ad8) (d.rs.length + 1) c8) 47 9 (cat rpc (d.rs ++ [(⟨x1, x2, x3, x4, x5, x6, x7, x8, x9⟩ : Rep)])) ∈ H5 ∧ (∀ h ∈ A, h ∈ H5) ∧ ∀ h ∈ H4, h ∈ H5) ?_ ?_
  · refine ⟨?_⟩
    simp (config := { maxSteps := 4000000 }) only [↓sx0, ↓sx1, ↓sx2, ↓sx3, ↓sx4, ↓sx5, ↓sx6, sx0, sx1, sx2, sx3, sx4, sx5, sx6, tf7, ev3_hold, sxo, sxc, sxp, sxq, sxr, sxs, sxl, sxm, Int.reduceBEq, Int.reduceBNe, Int.reduceLT, Int.reduceLE, Int.reduceEq, Int.reduceGT, Int.reduceGE, Int.reduceToNat, ↓reduceIte, List.reduceReplicate, Nat.reduceAdd, Nat.reduceSub, Nat.reduceMul, Nat.reduceLT, Nat.reduceLeDiff, Nat.reduceBEq, Nat.reduceEqDiff, dn]
    refine CallOb.pureH (fun w' hp => hvq _ w' (hW2 _ w' hp) (hQ _ w' (by simp) (fun h hh => by simp [hh]) hp)) ?_
    rintro q N6 ⟨b, rfl, hb2⟩
    cases b with
    | true =>
      refine ⟨?_⟩
      simp (config := { maxSteps := 4000000 }) only [↓sx0, ↓sx1, ↓sx2, ↓sx3, ↓sx4, ↓sx5, ↓sx6, sx0, sx1, sx2, sx3, sx4, sx5, sx6, tf7, ev3_hold, sxo, sxc, sxp, sxq, sxr, sxs, sxl, sxm, Int.reduceBEq, Int.reduceBNe, Int.reduceLT, Int.reduceLE, Int.reduceEq, Int.reduceGT, Int.reduceGE, Int.reduceToNat, ↓reduceIte, List.reduceReplicate, Nat.reduceAdd, Nat.reduceSub, Nat.reduceMul, Nat.reduceLT, Nat.reduceLeDiff, Nat.reduceBEq, Nat.reduceEqDiff]
      exact ⟨false, _, rfl, HImp.app _ _ _, (fun h => by cases h), by simp, (fun h hh => by simp [hh]), fun h hh => by simp [hh]⟩
    | false =>
    have hfq := hb2 rfl
    have hcq := hcq hfq.small
    refine ⟨?_⟩
    simp (config := { maxSteps := 4000000 }) only [↓sx0, ↓sx1, ↓sx2, ↓sx3, ↓sx4, ↓sx5, ↓sx6, sx0, sx1, sx2, sx3, sx4, sx5, sx6, tf7, ev3_hold, sxo, sxc, sxp, sxq, sxr, sxs, sxl, sxm, Int.reduceBEq, Int.reduceBNe, Int.reduceLT, Int.reduceLE, Int.reduceEq, Int.reduceGT, Int.reduceGE, Int.reduceToNat, ↓reduceIte, List.reduceReplicate, Nat.reduceAdd, Nat.reduceSub, Nat.reduceMul, Nat.reduceLT, Nat.reduceLeDiff, Nat.reduceBEq, Nat.reduceEqDiff, dn]
    refine CallOb.pureH (fun w' hp => hcq _ w' (hW2 _ w' hp) (hQ _ w' (by simp) (fun h hh => by simp [hh]) hp)) ?_
    rintro q N7 rfl
    have hb3 : ((d.plus (⟨x1, x2, x3, x4, x5, x6, x7, x8, x9⟩ : Rep)).E == 0) = true → (d.plus (⟨x1, x2, x3, x4, x5, x6, x7, x8, x9⟩ : Rep)).few ∧ (d.plus (⟨x1, x2, x3, x4, x5, x6, x7, x8, x9⟩ : Rep)).E = 0 := fun h => And.intro hfq (beq_iff_eq.1 h)
    refine ⟨?_⟩
    simp (config := { maxSteps := 4000000 }) only [↓sx0, ↓sx1, ↓sx2, ↓sx3, ↓sx4, ↓sx5, ↓sx6, sx0, sx1, sx2, sx3, sx4, sx5, sx6, tf7, ev3_hold, sxo, sxc, sxp, sxq, sxr, sxs, sxl, sxm, Int.reduceBEq, Int.reduceBNe, Int.reduceLT, Int.reduceLE, Int.reduceEq, Int.reduceGT, Int.reduceGE, Int.reduceToNat, ↓reduceIte, List.reduceReplicate, Nat.reduceAdd, Nat.reduceSub, Nat.reduceMul, Nat.reduceLT, Nat.reduceLeDiff, Nat.reduceBEq, Nat.reduceEqDiff]
    exact ⟨_, _, rfl, (HImp.app _ _ _).trans (HImp.app _ _ _), hb3, by simp, (fun h hh => by simp [hh]), fun h hh => by simp [hh]⟩
  rintro bg H5 g5 ⟨hbg, hm1, hmA, hm4⟩
  obtain ⟨M, hM⟩ : ∃ M, AL = true → e = 0 ∧ (d.crs pAll).least < NV ∧ L = zs M ∧ M.length = d.c.tide.length ∧ F.length = d.c.tide.length ∧ (∀ t, t < d.c.tide.length → M.getD t 0 ∈ d.whrL t) ∧ ∀ t, t < d.c.tide.length → (∀ s, s < t → F.getD s 0 = M.getD s 0) → F.getD t 0 ≤ M.getD t 0 := by
    cases hA : AL with
    | false => exact ⟨[], fun h => by cases h⟩
    | true =>
      obtain ⟨h1, M, h2, h3, h4, h5, h6⟩ := hall (hAL.1 hA)
      rcases hee with ⟨h7, _⟩ | ⟨_, h7⟩
      · exact ⟨M, fun _ => ⟨h7, h1, h2, h3, h4, h5, h6⟩⟩
      · exact absurd h1 h7
  have hLt : ∀ M : List Nat, M.length = d.c.tide.length → ∀ t, t < d.c.tide.length → (zs M)[t]? = some ((M.getD t 0 : Nat) : Int) := fun M hM t ht => zs_get (getD_at (by omega) 0)
  refine ⟨?_⟩
  simp (config := { maxSteps := 4000000 }) only [↓sx0, ↓sx1, ↓sx2, ↓sx3, ↓sx4, ↓sx5, ↓sx6, sx0, sx1, sx2, sx3, sx4, sx5, sx6, tf7, ev3_hold, sxo, sxc, sxp, sxq, sxr, sxs, sxl, sxm, Int.reduceBEq, Int.reduceBNe, Int.reduceLT, Int.reduceLE, Int.reduceEq, Int.reduceGT, Int.reduceGE, Int.reduceToNat, ↓reduceIte, List.reduceReplicate, Nat.reduceAdd, Nat.reduceSub, Nat.reduceMul, Nat.reduceLT, Nat.reduceLeDiff, Nat.reduceBEq, Nat.reduceEqDiff]
  refine loop_constH H5 (HImp.refl _ _) [(6, 6), (22, 28), (124, 211)] (fun q : Nat × Bool => [(22, .bool q.2), (23, I q.1)]) (fun q H6 => q.1 ≤ d.c.tide.length ∧ (q.2 = false → AL = true → ∀ s, s < q.1 → F.getD s 0 = M.getD s 0) ∧ H6 = H5) (fun q => d.c.tide.length - q.1) (0, false) ?_ ⟨Nat.zero_le _, (fun _ _ s h => absurd h (Nat.not_lt_zero _)), rfl⟩ ?_
  · simp (config := { maxSteps := 4000000 }) only [↓sx0, ↓sx1, ↓sx2, ↓sx3, ↓sx4, ↓sx5, ↓sx6, sx0, sx1, sx2, sx3, sx4, sx5, sx6, tf7, ev3_hold, sxo, sxc, sxp, sxq, sxr, sxs, sxl, sxm, Int.reduceBEq, Int.reduceBNe, Int.reduceLT, Int.reduceLE, Int.reduceEq, Int.reduceGT, Int.reduceGE, Int.reduceToNat, ↓reduceIte, List.reduceReplicate, Nat.reduceAdd, Nat.reduceSub, Nat.reduceMul, Nat.reduceLT, Nat.reduceLeDiff, Nat.reduceBEq, Nat.reduceEqDiff]
    try simp
  rintro ⟨t, en⟩ H6 g6 hinv
  simp only [] at hinv
  obtain ⟨ht, hpre, rfl⟩ := hinv
  by_cases htn : t = d.c.tide.length
  · have e7 : ((t : Int) < (d.c.tide.length : Int)) = False := eq_false (by omega)
    refine ⟨?_⟩
    simp (config := { maxSteps := 4000000 }) only [↓sx0, ↓sx1, ↓sx2, ↓sx3, ↓sx4, ↓sx5, ↓sx6, sx0, sx1, sx2, sx3, sx4, sx5, sx6, tf7, ev3_hold, sxo, sxc, sxp, sxq, sxr, sxs, sxl, sxm, Int.reduceBEq, Int.reduceBNe, Int.reduceLT, Int.reduceLE, Int.reduceEq, Int.reduceGT, Int.reduceGE, Int.reduceToNat, ↓reduceIte, List.reduceReplicate, Nat.reduceAdd, Nat.reduceSub, Nat.reduceMul, Nat.reduceLT, Nat.reduceLeDiff, Nat.reduceBEq, Nat.reduceEqDiff, e7, dn]
    refine CallOb.pureH (fun w' hp => hwk _ w' hp) ?_
    rintro q N9 rfl
    refine ⟨?_⟩
    simp (config := { maxSteps := 4000000 }) only [↓sx0, ↓sx1, ↓sx2, ↓sx3, ↓sx4, ↓sx5, ↓sx6, sx0, sx1, sx2, sx3, sx4, sx5, sx6, tf7, ev3_hold, sxo, sxc, sxp, sxq, sxr, sxs, sxl, sxm, Int.reduceBEq, Int.reduceBNe, Int.reduceLT, Int.reduceLE, Int.reduceEq, Int.reduceGT, Int.reduceGE, Int.reduceToNat, ↓reduceIte, List.reduceReplicate, Nat.reduceAdd, Nat.reduceSub, Nat.reduceMul, Nat.reduceLT, Nat.reduceLeDiff, Nat.reduceBEq, Nat.reduceEqDiff]
  have e7 : ((t : Int) < (d.c.tide.length : Int)) = True := eq_true (by omega)
  have e8 : wr (t + 1) = ((t + 1 : Nat) : Int) := (wrap_id (by omega)).trans (by omega)
  have hwt := hwh t (by omega)
  have hwlt := hwlen t
  have hpwt := fun h x => hpw h t x (by omega)
  have hltt : t < d.c.tide.length := by omega
  refine ⟨?_⟩
  simp (config := { maxSteps := 4000000 }) only [↓sx0, ↓sx1, ↓sx2, ↓sx3, ↓sx4, ↓sx5, ↓sx6, sx0, sx1, sx2, sx3, sx4, sx5, sx6, tf7, ev3_hold, sxo, sxc, sxp, sxq, sxr, sxs, sxl, sxm, Int.reduceBEq, Int.reduceBNe, Int.reduceLT, Int.reduceLE, Int.reduceEq, Int.reduceGT, Int.reduceGE, Int.reduceToNat, ↓reduceIte, List.reduceReplicate, Nat.reduceAdd, Nat.reduceSub, Nat.reduceMul, Nat.reduceLT, Nat.reduceLeDiff, Nat.reduceBEq, Nat.reduceEqDiff, e7, dn]
  refine CallOb.pureH (fun w' hp => hwt _ w' hp) ?_
  intro q N8 hq
  obtain ⟨xl, rfl, hGl⟩ := hwhP t q N8 hltt hq
  obtain ⟨al, cl, rfl⟩ := hGl.shape
  obtain ⟨WL, hWL⟩ : ∃ WL, d.whrL t = WL := ⟨_, rfl⟩
  rw [hWL] at hGl hwlt ⊢
  simp only [hWL] at hpwt
  have hzl := zs_len WL
  have hinl := fun (x : Nat) (hx : x ∈ WL) (w' : World) (h : Sl w' (.slice al (zs WL).length cl) 1 (ints (zs WL))) => (show SX.Fn _ _ _ _ _ fun q N => q = .bool true by
    have h2 := hin w' _ (zs WL) (x : Int) h (by omega)
    rw [decide_eq_true (mem_zs.2 hx)] at h2
    exact h2)
  refine ⟨?_⟩
  simp (config := { maxSteps := 4000000 }) only [↓sx0, ↓sx1, ↓sx2, ↓sx3, ↓sx4, ↓sx5, ↓sx6, sx0, sx1, sx2, sx3, sx4, sx5, sx6, tf7, ev3_hold, sxo, sxc, sxp, sxq, sxr, sxs, sxl, sxm, Int.reduceBEq, Int.reduceBNe, Int.reduceLT, Int.reduceLE, Int.reduceEq, Int.reduceGT, Int.reduceGE, Int.reduceToNat, ↓reduceIte, List.reduceReplicate, Nat.reduceAdd, Nat.reduceSub, Nat.reduceMul, Nat.reduceLT, Nat.reduceLeDiff, Nat.reduceBEq, Nat.reduceEqDiff, z3]
  refine cut_constH [(141, 169)] (fun _ : Unit => [(169, .bool false)]) (fun _ H7 => H7 = N8 ++ H6) ?_ ?_
  · cases AL with
    | false =>
      refine ⟨?_⟩
      simp (config := { maxSteps := 4000000 }) only [↓sx0, ↓sx1, ↓sx2, ↓sx3, ↓sx4, ↓sx5, ↓sx6, sx0, sx1, sx2, sx3, sx4, sx5, sx6, tf7, ev3_hold, sxo, sxc, sxp, sxq, sxr, sxs, sxl, sxm, Int.reduceBEq, Int.reduceBNe, Int.reduceLT, Int.reduceLE, Int.reduceEq, Int.reduceGT, Int.reduceGE, Int.reduceToNat, ↓reduceIte, List.reduceReplicate, Nat.reduceAdd, Nat.reduceSub, Nat.reduceMul, Nat.reduceLT, Nat.reduceLeDiff, Nat.reduceBEq, Nat.reduceEqDiff]
      exact ⟨(), _, HImp.refl _ _, rfl⟩
    | true =>
    obtain ⟨he0, hl, rfl, hMl, hFl, hmem, hlex⟩ := hM rfl
    have hGo := hGo hl
    obtain ⟨ao', co', hsh⟩ := hGo.shape
    injection hsh with _ hno _
    subst hno
    have p8 : (e = 0) = True := eq_true he0
    have hXt := hLt M hMl t hltt
    have hYt := hLt F hFl t hltt
    have hinx := hinl _ (hWL ▸ hmem t hltt)
    have hle := fun h => hlex t hltt (hpre h rfl)
    obtain ⟨X, hX⟩ : ∃ X, M.getD t 0 = X := ⟨_, rfl⟩
    obtain ⟨Y, hY⟩ : ∃ Y, F.getD t 0 = Y := ⟨_, rfl⟩
    rw [hX] at hXt hinx hle
    rw [hY] at hYt hle
    refine ⟨?_⟩
    simp (config := { maxSteps := 4000000 }) only [↓sx0, ↓sx1, ↓sx2, ↓sx3, ↓sx4, ↓sx5, ↓sx6, sx0, sx1, sx2, sx3, sx4, sx5, sx6, tf7, ev3_hold, sxo, sxc, sxp, sxq, sxr, sxs, sxl, sxm, Int.reduceBEq, Int.reduceBNe, Int.reduceLT, Int.reduceLE, Int.reduceEq, Int.reduceGT, Int.reduceGE, Int.reduceToNat, ↓reduceIte, List.reduceReplicate, Nat.reduceAdd, Nat.reduceSub, Nat.reduceMul, Nat.reduceLT, Nat.reduceLeDiff, Nat.reduceBEq, Nat.reduceEqDiff, p8, dn]
    refine at_1 (hrL _) i1_len hXt rfl fun ad1 => ?_
    simp (config := { maxSteps := 4000000 }) only [↓sx0, ↓sx1, ↓sx2, ↓sx3, ↓sx4, ↓sx5, ↓sx6, sx0, sx1, sx2, sx3, sx4, sx5, sx6, tf7, ev3_hold, sxo, sxc, sxp, sxq, sxr, sxs, sxl, sxm, Int.reduceBEq, Int.reduceBNe, Int.reduceLT, Int.reduceLE, Int.reduceEq, Int.reduceGT, Int.reduceGE, Int.reduceToNat, ↓reduceIte, List.reduceReplicate, Nat.reduceAdd, Nat.reduceSub, Nat.reduceMul, Nat.reduceLT, Nat.reduceLeDiff, Nat.reduceBEq, Nat.reduceEqDiff, dn]
    refine CallOb.pureH (fun w' hp => hinx w' (hGl.hp (fun h hh => by simp [hh]) hp)) ?_
    rintro q N9 rfl
    cases en with
    | true =>
      refine ⟨?_⟩
      simp (config := { maxSteps := 4000000 }) only [↓sx0, ↓sx1, ↓sx2, ↓sx3, ↓sx4, ↓sx5, ↓sx6, sx0, sx1, sx2, sx3, sx4, sx5, sx6, tf7, ev3_hold, sxo, sxc, sxp, sxq, sxr, sxs, sxl, sxm, Int.reduceBEq, Int.reduceBNe, Int.reduceLT, Int.reduceLE, Int.reduceEq, Int.reduceGT, Int.reduceGE, Int.reduceToNat, ↓reduceIte, List.reduceReplicate, Nat.reduceAdd, Nat.reduceSub, Nat.reduceMul, Nat.reduceLT, Nat.reduceLeDiff, Nat.reduceBEq, Nat.reduceEqDiff]
      exact ⟨(), _, HImp.app _ _ _, rfl⟩
    | false =>
    have q9 : ((Y : Int) > (X : Int)) = False := eq_false (by have := hle rfl; omega)
    refine ⟨?_⟩
    simp (config := { maxSteps := 4000000 }) only [↓sx0, ↓sx1, ↓sx2, ↓sx3, ↓sx4, ↓sx5, ↓sx6, sx0, sx1, sx2, sx3, sx4, sx5, sx6, tf7, ev3_hold, sxo, sxc, sxp, sxq, sxr, sxs, sxl, sxm, Int.reduceBEq, Int.reduceBNe, Int.reduceLT, Int.reduceLE, Int.reduceEq, Int.reduceGT, Int.reduceGE, Int.reduceToNat, ↓reduceIte, List.reduceReplicate, Nat.reduceAdd, Nat.reduceSub, Nat.reduceMul, Nat.reduceLT, Nat.reduceLeDiff, Nat.reduceBEq, Nat.reduceEqDiff]
    refine at_1 (hGo.rdv i1_len (fun h hh => by simp [hm4 _ hh])) i1_len hYt rfl fun ad1 => ?_
    simp (config := { maxSteps := 4000000 }) only [↓sx0, ↓sx1, ↓sx2, ↓sx3, ↓sx4, ↓sx5, ↓sx6, sx0, sx1, sx2, sx3, sx4, sx5, sx6, tf7, ev3_hold, sxo, sxc, sxp, sxq, sxr, sxs, sxl, sxm, Int.reduceBEq, Int.reduceBNe, Int.reduceLT, Int.reduceLE, Int.reduceEq, Int.reduceGT, Int.reduceGE, Int.reduceToNat, ↓reduceIte, List.reduceReplicate, Nat.reduceAdd, Nat.reduceSub, Nat.reduceMul, Nat.reduceLT, Nat.reduceLeDiff, Nat.reduceBEq, Nat.reduceEqDiff]
    refine at_1 (hrL _) i1_len hXt rfl fun ad1 => ?_
    simp (config := { maxSteps := 4000000 }) only [↓sx0, ↓sx1, ↓sx2, ↓sx3, ↓sx4, ↓sx5, ↓sx6, sx0, sx1, sx2, sx3, sx4, sx5, sx6, tf7, ev3_hold, sxo, sxc, sxp, sxq, sxr, sxs, sxl, sxm, Int.reduceBEq, Int.reduceBNe, Int.reduceLT, Int.reduceLE, Int.reduceEq, Int.reduceGT, Int.reduceGE, Int.reduceToNat, ↓reduceIte, List.reduceReplicate, Nat.reduceAdd, Nat.reduceSub, Nat.reduceMul, Nat.reduceLT, Nat.reduceLeDiff, Nat.reduceBEq, Nat.reduceEqDiff, q9]
    exact ⟨(), _, HImp.app _ _ _, rfl⟩
  rintro _ H7 g7 rfl
  refine ⟨?_⟩
  simp (config := { maxSteps := 4000000 }) only [↓sx0, ↓sx1, ↓sx2, ↓sx3, ↓sx4, ↓sx5, ↓sx6, sx0, sx1, sx2, sx3, sx4, sx5, sx6, tf7, ev3_hold, sxo, sxc, sxp, sxq, sxr, sxs, sxl, sxm, Int.reduceBEq, Int.reduceBNe, Int.reduceLT, Int.reduceLE, Int.reduceEq, Int.reduceGT, Int.reduceGE, Int.reduceToNat, ↓reduceIte, List.reduceReplicate, Nat.reduceAdd, Nat.reduceSub, Nat.reduceMul, Nat.reduceLT, Nat.reduceLeDiff, Nat.reduceBEq, Nat.reduceEqDiff]
  refine cut_constH [(22, 22), (170, 184)] (fun b : Bool => [(22, .bool b)]) (fun b H8 => (b = false → AL = true → ∀ s, s < t + 1 → F.getD s 0 = M.getD s 0) ∧ H8 = N8 ++ H6) ?_ ?_
  · cases en with
    | true =>
      refine ⟨?_⟩
      simp (config := { maxSteps := 4000000 }) only [↓sx0, ↓sx1, ↓sx2, ↓sx3, ↓sx4, ↓sx5, ↓sx6, sx0, sx1, sx2, sx3, sx4, sx5, sx6, tf7, ev3_hold, sxo, sxc, sxp, sxq, sxr, sxs, sxl, sxm, Int.reduceBEq, Int.reduceBNe, Int.reduceLT, Int.reduceLE, Int.reduceEq, Int.reduceGT, Int.reduceGE, Int.reduceToNat, ↓reduceIte, List.reduceReplicate, Nat.reduceAdd, Nat.reduceSub, Nat.reduceMul, Nat.reduceLT, Nat.reduceLeDiff, Nat.reduceBEq, Nat.reduceEqDiff]
      exact ⟨true, _, rfl, HImp.refl _ _, (fun h => by cases h), rfl⟩
    | false =>
    cases AL with
    | false =>
      refine ⟨?_⟩
      simp (config := { maxSteps := 4000000 }) only [↓sx0, ↓sx1, ↓sx2, ↓sx3, ↓sx4, ↓sx5, ↓sx6, sx0, sx1, sx2, sx3, sx4, sx5, sx6, tf7, ev3_hold, sxo, sxc, sxp, sxq, sxr, sxs, sxl, sxm, Int.reduceBEq, Int.reduceBNe, Int.reduceLT, Int.reduceLE, Int.reduceEq, Int.reduceGT, Int.reduceGE, Int.reduceToNat, ↓reduceIte, List.reduceReplicate, Nat.reduceAdd, Nat.reduceSub, Nat.reduceMul, Nat.reduceLT, Nat.reduceLeDiff, Nat.reduceBEq, Nat.reduceEqDiff]
      exact ⟨false, _, rfl, HImp.refl _ _, rfl⟩
    | true =>
    obtain ⟨he0, hl, rfl, hMl, hFl, hmem, hlex⟩ := hM rfl
    have hGo := hGo hl
    obtain ⟨ao', co', hsh⟩ := hGo.shape
    injection hsh with _ hno _
    subst hno
    have hXt := hLt M hMl t hltt
    have hYt := hLt F hFl t hltt
    have hpre := hpre rfl rfl
    have hle := hlex t hltt hpre
    have hnx : (M.getD t 0 ≤ F.getD t 0) → ∀ s, s < t + 1 → F.getD s 0 = M.getD s 0 := fun h s hs => by
      by_cases e : s = t
      · subst e
        exact Nat.le_antisymm hle h
      · exact hpre s (by omega)
    obtain ⟨X, hX⟩ : ∃ X, M.getD t 0 = X := ⟨_, rfl⟩
    obtain ⟨Y, hY⟩ : ∃ Y, F.getD t 0 = Y := ⟨_, rfl⟩
    rw [hX] at hXt hnx
    rw [hY] at hYt hnx
    refine ⟨?_⟩
    simp (config := { maxSteps := 4000000 }) only [↓sx0, ↓sx1, ↓sx2, ↓sx3, ↓sx4, ↓sx5, ↓sx6, sx0, sx1, sx2, sx3, sx4, sx5, sx6, tf7, ev3_hold, sxo, sxc, sxp, sxq, sxr, sxs, sxl, sxm, Int.reduceBEq, Int.reduceBNe, Int.reduceLT, Int.reduceLE, Int.reduceEq, Int.reduceGT, Int.reduceGE, Int.reduceToNat, ↓reduceIte, List.reduceReplicate, Nat.reduceAdd, Nat.reduceSub, Nat.reduceMul, Nat.reduceLT, Nat.reduceLeDiff, Nat.reduceBEq, Nat.reduceEqDiff]
    refine at_1 (hGo.rdv i1_len (fun h hh => by simp [hm4 _ hh])) i1_len hYt rfl fun ad1 => ?_
    simp (config := { maxSteps := 4000000 }) only [↓sx0, ↓sx1, ↓sx2, ↓sx3, ↓sx4, ↓sx5, ↓sx6, sx0, sx1, sx2, sx3, sx4, sx5, sx6, tf7, ev3_hold, sxo, sxc, sxp, sxq, sxr, sxs, sxl, sxm, Int.reduceBEq, Int.reduceBNe, Int.reduceLT, Int.reduceLE, Int.reduceEq, Int.reduceGT, Int.reduceGE, Int.reduceToNat, ↓reduceIte, List.reduceReplicate, Nat.reduceAdd, Nat.reduceSub, Nat.reduceMul, Nat.reduceLT, Nat.reduceLeDiff, Nat.reduceBEq, Nat.reduceEqDiff]
    refine at_1 (hrL _) i1_len hXt rfl fun ad1 => ?_
    simp (config := { maxSteps := 4000000 }) only [↓sx0, ↓sx1, ↓sx2, ↓sx3, ↓sx4, ↓sx5, ↓sx6, sx0, sx1, sx2, sx3, sx4, sx5, sx6, tf7, ev3_hold, sxo, sxc, sxp, sxq, sxr, sxs, sxl, sxm, Int.reduceBEq, Int.reduceBNe, Int.reduceLT, Int.reduceLE, Int.reduceEq, Int.reduceGT, Int.reduceGE, Int.reduceToNat, ↓reduceIte, List.reduceReplicate, Nat.reduceAdd, Nat.reduceSub, Nat.reduceMul, Nat.reduceLT, Nat.reduceLeDiff, Nat.reduceBEq, Nat.reduceEqDiff]
    exact ⟨_, _, rfl, HImp.refl _ _, (fun h s hs => hnx (by have := of_decide_eq_false h; omega) s hs), rfl⟩
  rintro b H8 g8 ⟨hb9, rfl⟩
  cases bg with
  | false =>
    refine ⟨?_⟩
    simp (config := { maxSteps := 4000000 }) only [↓sx0, ↓sx1, ↓sx2, ↓sx3, ↓sx4, ↓sx5, ↓sx6, sx0, sx1, sx2, sx3, sx4, sx5, sx6, tf7, ev3_hold, sxo, sxc, sxp, sxq, sxr, sxs, sxl, sxm, Int.reduceBEq, Int.reduceBNe, Int.reduceLT, Int.reduceLE, Int.reduceEq, Int.reduceGT, Int.reduceGE, Int.reduceToNat, ↓reduceIte, List.reduceReplicate, Nat.reduceAdd, Nat.reduceSub, Nat.reduceMul, Nat.reduceLT, Nat.reduceLeDiff, Nat.reduceBEq, Nat.reduceEqDiff, e8]
    exact ⟨(t + 1, b), _, ⟨rfl, rfl⟩, HImp.app _ _ _, ⟨by simp only []; omega, hb9, rfl⟩, by simp only []; omega⟩
  | true =>
  obtain ⟨hfq, hEq⟩ := hbg rfl
  have hwq := fun v' w' (hp : Ways w') h => hwq hfq.small v' w' hp h (t : Nat)
  refine ⟨?_⟩
  simp (config := { maxSteps := 4000000 }) only [↓sx0, ↓sx1, ↓sx2, ↓sx3, ↓sx4, ↓sx5, ↓sx6, sx0, sx1, sx2, sx3, sx4, sx5, sx6, tf7, ev3_hold, sxo, sxc, sxp, sxq, sxr, sxs, sxl, sxm, Int.reduceBEq, Int.reduceBNe, Int.reduceLT, Int.reduceLE, Int.reduceEq, Int.reduceGT, Int.reduceGE, Int.reduceToNat, ↓reduceIte, List.reduceReplicate, Nat.reduceAdd, Nat.reduceSub, Nat.reduceMul, Nat.reduceLT, Nat.reduceLeDiff, Nat.reduceBEq, Nat.reduceEqDiff, dn]
  refine CallOb.pureH (fun w' hp => hwq _ w' (hW2 _ w' hp) (hQ _ w' (by simp [hm1]) (fun h hh => by simp [hmA _ hh]) hp)) ?_
  intro q N10 hq
  obtain ⟨xm, rfl, hGm⟩ := hwqP t q N10 hEq hltt hq
  obtain ⟨am, cm, rfl⟩ := hGm.shape
  have hpwt := hpwt hEq
  have hqlt := hqlen t hfq hEq
  obtain ⟨WQ, hWQ⟩ : ∃ WQ, (d.plus (⟨x1, x2, x3, x4, x5, x6, x7, x8, x9⟩ : Rep)).whrL t = WQ := ⟨_, rfl⟩
  rw [hWQ] at hGm hqlt ⊢
  simp only [hWQ] at hpwt
  have hzq := zs_len WQ
  obtain ⟨g, hg⟩ : ∃ g : Int, (if WQ = [] then 3 else 0) = g := ⟨_, rfl⟩
  have hg2 : g = 3 ∨ g = 0 := by
    rw [← hg]
    split
    · exact .inl rfl
    · exact .inr rfl
  rw [hg]
  refine ⟨?_⟩
  simp (config := { maxSteps := 4000000 }) only [↓sx0, ↓sx1, ↓sx2, ↓sx3, ↓sx4, ↓sx5, ↓sx6, sx0, sx1, sx2, sx3, sx4, sx5, sx6, tf7, ev3_hold, sxo, sxc, sxp, sxq, sxr, sxs, sxl, sxm, Int.reduceBEq, Int.reduceBNe, Int.reduceLT, Int.reduceLE, Int.reduceEq, Int.reduceGT, Int.reduceGE, Int.reduceToNat, ↓reduceIte, List.reduceReplicate, Nat.reduceAdd, Nat.reduceSub, Nat.reduceMul, Nat.reduceLT, Nat.reduceLeDiff, Nat.reduceBEq, Nat.reduceEqDiff]
  refine cut_constH [(193, 198)] (fun _ : Unit => [(198, .bool false)]) (fun _ H9 => H9 = N10 ++ (N8 ++ H6)) ?_ ?_
  · rcases hg2 with rfl | rfl
    · refine ⟨?_⟩
      simp (config := { maxSteps := 4000000 }) only [↓sx0, ↓sx1, ↓sx2, ↓sx3, ↓sx4, ↓sx5, ↓sx6, sx0, sx1, sx2, sx3, sx4, sx5, sx6, tf7, ev3_hold, sxo, sxc, sxp, sxq, sxr, sxs, sxl, sxm, Int.reduceBEq, Int.reduceBNe, Int.reduceLT, Int.reduceLE, Int.reduceEq, Int.reduceGT, Int.reduceGE, Int.reduceToNat, ↓reduceIte, List.reduceReplicate, Nat.reduceAdd, Nat.reduceSub, Nat.reduceMul, Nat.reduceLT, Nat.reduceLeDiff, Nat.reduceBEq, Nat.reduceEqDiff]
      exact ⟨(), _, HImp.refl _ _, rfl⟩
    · refine ⟨?_⟩
      simp (config := { maxSteps := 4000000 }) only [↓sx0, ↓sx1, ↓sx2, ↓sx3, ↓sx4, ↓sx5, ↓sx6, sx0, sx1, sx2, sx3, sx4, sx5, sx6, tf7, ev3_hold, sxo, sxc, sxp, sxq, sxr, sxs, sxl, sxm, Int.reduceBEq, Int.reduceBNe, Int.reduceLT, Int.reduceLE, Int.reduceEq, Int.reduceGT, Int.reduceGE, Int.reduceToNat, ↓reduceIte, List.reduceReplicate, Nat.reduceAdd, Nat.reduceSub, Nat.reduceMul, Nat.reduceLT, Nat.reduceLeDiff, Nat.reduceBEq, Nat.reduceEqDiff]
      exact ⟨(), _, HImp.refl _ _, rfl⟩
  rintro _ H9 g9 rfl
  refine ⟨?_⟩
  simp (config := { maxSteps := 4000000 }) only [↓sx0, ↓sx1, ↓sx2, ↓sx3, ↓sx4, ↓sx5, ↓sx6, sx0, sx1, sx2, sx3, sx4, sx5, sx6, tf7, ev3_hold, sxo, sxc, sxp, sxq, sxr, sxs, sxl, sxm, Int.reduceBEq, Int.reduceBNe, Int.reduceLT, Int.reduceLE, Int.reduceEq, Int.reduceGT, Int.reduceGE, Int.reduceToNat, ↓reduceIte, List.reduceReplicate, Nat.reduceAdd, Nat.reduceSub, Nat.reduceMul, Nat.reduceLT, Nat.reduceLeDiff, Nat.reduceBEq, Nat.reduceEqDiff]
  refine loop_constH (N10 ++ (N8 ++ H6)) (HImp.refl _ _) [(6, 6), (28, 28), (199, 211)] (fun i : Nat => [(28, I i)]) (fun i H10 => i ≤ (zs WQ).length ∧ H10 = N10 ++ (N8 ++ H6)) (fun i => (zs WQ).length - i) 0 ?_ ⟨Nat.zero_le _, rfl⟩ ?_
  · simp (config := { maxSteps := 4000000 }) only [↓sx0, ↓sx1, ↓sx2, ↓sx3, ↓sx4, ↓sx5, ↓sx6, sx0, sx1, sx2, sx3, sx4, sx5, sx6, tf7, ev3_hold, sxo, sxc, sxp, sxq, sxr, sxs, sxl, sxm, Int.reduceBEq, Int.reduceBNe, Int.reduceLT, Int.reduceLE, Int.reduceEq, Int.reduceGT, Int.reduceGE, Int.reduceToNat, ↓reduceIte, List.reduceReplicate, Nat.reduceAdd, Nat.reduceSub, Nat.reduceMul, Nat.reduceLT, Nat.reduceLeDiff, Nat.reduceBEq, Nat.reduceEqDiff]
    try simp
  rintro i H10 g10 ⟨hi, rfl⟩
  by_cases hie : i = (zs WQ).length
  · have f7 : ((i : Int) < ((zs WQ).length : Int)) = False := eq_false (by omega)
    refine ⟨?_⟩
    simp (config := { maxSteps := 4000000 }) only [↓sx0, ↓sx1, ↓sx2, ↓sx3, ↓sx4, ↓sx5, ↓sx6, sx0, sx1, sx2, sx3, sx4, sx5, sx6, tf7, ev3_hold, sxo, sxc, sxp, sxq, sxr, sxs, sxl, sxm, Int.reduceBEq, Int.reduceBNe, Int.reduceLT, Int.reduceLE, Int.reduceEq, Int.reduceGT, Int.reduceGE, Int.reduceToNat, ↓reduceIte, List.reduceReplicate, Nat.reduceAdd, Nat.reduceSub, Nat.reduceMul, Nat.reduceLT, Nat.reduceLeDiff, Nat.reduceBEq, Nat.reduceEqDiff, f7, e8]
    exact ⟨(t + 1, b), _, ⟨rfl, rfl⟩, (HImp.app _ _ _).trans (HImp.app _ _ _), ⟨by simp only []; omega, hb9, rfl⟩, by simp only []; omega⟩
  have f7 : ((i : Int) < ((zs WQ).length : Int)) = True := eq_true (by omega)
  have f8 : wr (i + 1) = ((i + 1 : Nat) : Int) := (wrap_id (by omega)).trans (by omega)
  obtain ⟨Y, hY⟩ : ∃ Y, WQ[i]? = some Y := ⟨_, List.getElem?_eq_getElem (by omega)⟩
  have hYz := zs_get hY
  have hinx := hinl Y (hpwt Y (List.mem_of_getElem? hY))
  refine ⟨?_⟩
  simp (config := { maxSteps := 4000000 }) only [↓sx0, ↓sx1, ↓sx2, ↓sx3, ↓sx4, ↓sx5, ↓sx6, sx0, sx1, sx2, sx3, sx4, sx5, sx6, tf7, ev3_hold, sxo, sxc, sxp, sxq, sxr, sxs, sxl, sxm, Int.reduceBEq, Int.reduceBNe, Int.reduceLT, Int.reduceLE, Int.reduceEq, Int.reduceGT, Int.reduceGE, Int.reduceToNat, ↓reduceIte, List.reduceReplicate, Nat.reduceAdd, Nat.reduceSub, Nat.reduceMul, Nat.reduceLT, Nat.reduceLeDiff, Nat.reduceBEq, Nat.reduceEqDiff, f7]
  refine amid (at_1 (hGm.rdv i1_len (fun h hh => by simp [hh])) i1_len hYz rfl fun ad1 => ?_)
  simp (config := { maxSteps := 4000000 }) only [↓sx0, ↓sx1, ↓sx2, ↓sx3, ↓sx4, ↓sx5, ↓sx6, sx0, sx1, sx2, sx3, sx4, sx5, sx6, tf7, ev3_hold, sxo, sxc, sxp, sxq, sxr, sxs, sxl, sxm, Int.reduceBEq, Int.reduceBNe, Int.reduceLT, Int.reduceLE, Int.reduceEq, Int.reduceGT, Int.reduceGE, Int.reduceToNat, ↓reduceIte, List.reduceReplicate, Nat.reduceAdd, Nat.reduceSub, Nat.reduceMul, Nat.reduceLT, Nat.reduceLeDiff, Nat.reduceBEq, Nat.reduceEqDiff, dn]
  refine CallOb.pureH (fun w' hp => hinx w' (hGl.hp (fun h hh => by simp [hh]) hp)) ?_
  rintro q N11 rfl
  refine ⟨?_⟩
  simp (config := { maxSteps := 4000000 }) only [↓sx0, ↓sx1, ↓sx2, ↓sx3, ↓sx4, ↓sx5, ↓sx6, sx0, sx1, sx2, sx3, sx4, sx5, sx6, tf7, ev3_hold, sxo, sxc, sxp, sxq, sxr, sxs, sxl, sxm, Int.reduceBEq, Int.reduceBNe, Int.reduceLT, Int.reduceLE, Int.reduceEq, Int.reduceGT, Int.reduceGE, Int.reduceToNat, ↓reduceIte, List.reduceReplicate, Nat.reduceAdd, Nat.reduceSub, Nat.reduceMul, Nat.reduceLT, Nat.reduceLeDiff, Nat.reduceBEq, Nat.reduceEqDiff, f8]
  exact ⟨i + 1, _, rfl, HImp.app _ _ _, ⟨by omega, rfl⟩, by omega⟩
end Go.Proofs.YtaloedccoadedaaDoor
