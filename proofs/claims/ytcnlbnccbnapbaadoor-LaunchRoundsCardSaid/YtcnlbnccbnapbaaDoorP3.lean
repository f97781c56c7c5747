/- Parts of a proof: the symbolic walk and what it shows of single functions. -/
import Derived.Test.YtcnlbnccbnapbaaDoorP2
import Derived.Test.YtcnlbnccbnapbaaDoorX3
set_option linter.all false
namespace Go.Proofs.YtcnlbnccbnapbaaDoor
open Go.RowKit Go.SX
set_option maxRecDepth 10000
set_option maxHeartbeats 0
set_option linter.unusedSimpArgs false
set_option linter.unusedVariables false
theorem reach5_fn (w : World) (bs : Nat) (c : Cht) (hok : c.ok) (b : Cls) (r : Rmp) (k : Nat) (hk : k < c.depth.length) (hkr : r.cell = k) (hst : StaOk w bs c b r.cell (rdyL c b r) (canL c b) (nearL c)) (t : Nat) (ht : t < c.tide.length) :
    SX.Fn Tryd.prog 64 [.pointer (some ⟨bs, 0, none⟩), I t] w (fun _ => False) fun q N => Got q 3 1 i1 (reachL c b r t) N := by
  obtain ⟨sD, sT, sS, vr, vc, vn, hcs, hch, hrd, hcn, hnr⟩ := hst
  obtain ⟨sD', sT', sS', he, hsD, hsT, hsS⟩ := hch
  injection he with he
  injection he with he
  simp only [List.cons.injEq, true_and, and_true] at he
  obtain ⟨rfl, rfl, rfl⟩ := he
  obtain ⟨aD, nD, cD, rfl⟩ := hsD.shape
  obtain ⟨aT, nT, cT, rfl⟩ := hsT.shape
  obtain ⟨ar, nr, cr, rfl⟩ := hrd.shape
  obtain ⟨cvs, hcvl, hcvs, hcv⟩ := hcn.at
  obtain ⟨nvs, hnvl, hnvs, hnv⟩ := hnr.at
  obtain ⟨ac, nc, cc, rfl⟩ := hcvs.shape
  obtain ⟨an, nn, cn, rfl⟩ := hnvs.shape
  have hnD := hsD.le i1_len (by omega)
  have hnT := hsT.le spc_len (by omega)
  have hnr' := hrd.le b1_len (by omega)
  have hnc := hcvs.le slq_len (by omega)
  have hnn := hnvs.le slq_len (by omega)
  have hrl : (rdyL c b r).length = c.tide.length := by unfold rdyL; rw [List.length_map, List.length_range]
  have hcl : (canL c b).length = c.tide.length := by unfold canL; rw [List.length_map, List.length_range]
  have hnl : (nearL c).length = c.depth.length := by unfold nearL; rw [List.length_map, List.length_range]
  rw [hrl] at hnr'
  rw [hcvl, hcl] at hnc
  rw [hnvl, hnl] at hnn
  subst hnD hnT hnr' hnc hnn
  have hrr := hrd.rd0
  have hrc := hcvs.rd0
  have hrn := hnvs.rd0
  have hu := hok.2.2.2.1
  have h60 := hu.2
  have hdw := hok.dims
  have h144 : c.depth.length < 200 := by have := hok.dims; obtain ⟨_, _, h1, h2, h3⟩ := this; rw [h3]; exact Nat.lt_of_le_of_lt (Nat.mul_le_mul h1.2 h2.2) (by decide)
  have m2 := hcs 2 _ rfl
  have m3 := hcs 3 _ rfl
  have m12 := hcs 12 _ rfl
  have m13 := hcs 13 _ rfl
  have m14 := hcs 14 _ rfl
  have m15 := hcs 15 _ rfl
  rw [hkr] at m12
  have hrt : (rdyL c b r)[t]? = some (rdyB c b r t) := by unfold rdyL; rw [List.getElem?_map, List.getElem?_range ht]; rfl
  have dn : ∀ (g : Nat) (xs : List Value), det0 g xs = none := fun _ _ => rfl
  have hkn : r.cell.toNat = k := by omega
  unfold reachL
  rw [hkn]
  refine walk [] [] (det0_ok _ _) Tryd.func64 rfl Tryd.ntmps64 res64 (by kernel_rfl) no_facts ?_
  simp (config := { maxSteps := 4000000 }) only [↓sx0, ↓sx1, ↓sx2, ↓sx3, ↓sx4, ↓sx5, ↓sx6, sx0, sx1, sx2, sx3, sx4, sx5, sx6, tf64, ev3_hold, sxo, sxc, sxp, sxq, sxr, sxs, sxl, sxm, Int.reduceBEq, Int.reduceBNe, Int.reduceLT, Int.reduceLE, Int.reduceEq, Int.reduceGT, Int.reduceGE, Int.reduceToNat, ↓reduceIte, List.reduceReplicate, Nat.reduceAdd, Nat.reduceSub, Nat.reduceMul, Nat.reduceLT, Nat.reduceLeDiff, Nat.reduceBEq, Nat.reduceEqDiff, dn]
  intro bi
  refine ld_olda (by simp [add_block]) m2 id ?_
  simp (config := { maxSteps := 4000000 }) only [↓sx0, ↓sx1, ↓sx2, ↓sx3, ↓sx4, ↓sx5, ↓sx6, sx0, sx1, sx2, sx3, sx4, sx5, sx6, tf64, ev3_hold, sxo, sxc, sxp, sxq, sxr, sxs, sxl, sxm, Int.reduceBEq, Int.reduceBNe, Int.reduceLT, Int.reduceLE, Int.reduceEq, Int.reduceGT, Int.reduceGE, Int.reduceToNat, ↓reduceIte, List.reduceReplicate, Nat.reduceAdd, Nat.reduceSub, Nat.reduceMul, Nat.reduceLT, Nat.reduceLeDiff, Nat.reduceBEq, Nat.reduceEqDiff, dn]
  refine CallOb.pureH (fun w' hp => repeat_fn w' _ (-1) c.depth.length (row_hp (E := 3) List.mem_cons_self hp) h144 (by omega)) ?_
  rintro q N ⟨bo, rfl, hbo⟩
  cases hrb : rdyB c b r t with
  | false =>
    rw [hrb] at hrt
    refine ⟨?_⟩
    simp (config := { maxSteps := 4000000 }) only [↓sx0, ↓sx1, ↓sx2, ↓sx3, ↓sx4, ↓sx5, ↓sx6, sx0, sx1, sx2, sx3, sx4, sx5, sx6, tf64, ev3_hold, sxo, sxc, sxp, sxq, sxr, sxs, sxl, sxm, Int.reduceBEq, Int.reduceBNe, Int.reduceLT, Int.reduceLE, Int.reduceEq, Int.reduceGT, Int.reduceGE, Int.reduceToNat, ↓reduceIte, List.reduceReplicate, Nat.reduceAdd, Nat.reduceSub, Nat.reduceMul, Nat.reduceLT, Nat.reduceLeDiff, Nat.reduceBEq, Nat.reduceEqDiff]
    refine ld_olda (by simp [add_block]) m13 id ?_
    simp (config := { maxSteps := 4000000 }) only [↓sx0, ↓sx1, ↓sx2, ↓sx3, ↓sx4, ↓sx5, ↓sx6, sx0, sx1, sx2, sx3, sx4, sx5, sx6, tf64, ev3_hold, sxo, sxc, sxp, sxq, sxr, sxs, sxl, sxm, Int.reduceBEq, Int.reduceBNe, Int.reduceLT, Int.reduceLE, Int.reduceEq, Int.reduceGT, Int.reduceGE, Int.reduceToNat, ↓reduceIte, List.reduceReplicate, Nat.reduceAdd, Nat.reduceSub, Nat.reduceMul, Nat.reduceLT, Nat.reduceLeDiff, Nat.reduceBEq, Nat.reduceEqDiff]
    refine at_1 (hrr _) b1_len hrt rfl fun ad1 => ?_
    simp (config := { maxSteps := 4000000 }) only [↓sx0, ↓sx1, ↓sx2, ↓sx3, ↓sx4, ↓sx5, ↓sx6, sx0, sx1, sx2, sx3, sx4, sx5, sx6, tf64, ev3_hold, sxo, sxc, sxp, sxq, sxr, sxs, sxl, sxm, Int.reduceBEq, Int.reduceBNe, Int.reduceLT, Int.reduceLE, Int.reduceEq, Int.reduceGT, Int.reduceGE, Int.reduceToNat, ↓reduceIte, List.reduceReplicate, Nat.reduceAdd, Nat.reduceSub, Nat.reduceMul, Nat.reduceLT, Nat.reduceLeDiff, Nat.reduceBEq, Nat.reduceEqDiff]
    exact Got.row (by simp) (List.mem_append_left _ hbo) (fun h => by cases h)
  | true =>
  rw [hrb] at hrt
  refine ⟨?_⟩
  simp (config := { maxSteps := 4000000 }) only [↓sx0, ↓sx1, ↓sx2, ↓sx3, ↓sx4, ↓sx5, ↓sx6, sx0, sx1, sx2, sx3, sx4, sx5, sx6, tf64, ev3_hold, sxo, sxc, sxp, sxq, sxr, sxs, sxl, sxm, Int.reduceBEq, Int.reduceBNe, Int.reduceLT, Int.reduceLE, Int.reduceEq, Int.reduceGT, Int.reduceGE, Int.reduceToNat, ↓reduceIte, List.reduceReplicate, Nat.reduceAdd, Nat.reduceSub, Nat.reduceMul, Nat.reduceLT, Nat.reduceLeDiff, Nat.reduceBEq, Nat.reduceEqDiff]
  refine ld_olda (by simp [add_block]) m13 id ?_
  simp (config := { maxSteps := 4000000 }) only [↓sx0, ↓sx1, ↓sx2, ↓sx3, ↓sx4, ↓sx5, ↓sx6, sx0, sx1, sx2, sx3, sx4, sx5, sx6, tf64, ev3_hold, sxo, sxc, sxp, sxq, sxr, sxs, sxl, sxm, Int.reduceBEq, Int.reduceBNe, Int.reduceLT, Int.reduceLE, Int.reduceEq, Int.reduceGT, Int.reduceGE, Int.reduceToNat, ↓reduceIte, List.reduceReplicate, Nat.reduceAdd, Nat.reduceSub, Nat.reduceMul, Nat.reduceLT, Nat.reduceLeDiff, Nat.reduceBEq, Nat.reduceEqDiff]
  refine at_1 (hrr _) b1_len hrt rfl fun ad1 => ?_
  simp (config := { maxSteps := 4000000 }) only [↓sx0, ↓sx1, ↓sx2, ↓sx3, ↓sx4, ↓sx5, ↓sx6, sx0, sx1, sx2, sx3, sx4, sx5, sx6, tf64, ev3_hold, sxo, sxc, sxp, sxq, sxr, sxs, sxl, sxm, Int.reduceBEq, Int.reduceBNe, Int.reduceLT, Int.reduceLE, Int.reduceEq, Int.reduceGT, Int.reduceGE, Int.reduceToNat, ↓reduceIte, List.reduceReplicate, Nat.reduceAdd, Nat.reduceSub, Nat.reduceMul, Nat.reduceLT, Nat.reduceLeDiff, Nat.reduceBEq, Nat.reduceEqDiff]
  refine ⟨by omega, by omega, by omega, fun bn => ?_⟩
  refine ld_olda (by simp [add_block]) m12 id ?_
  simp (config := { maxSteps := 4000000 }) only [↓sx0, ↓sx1, ↓sx2, ↓sx3, ↓sx4, ↓sx5, ↓sx6, sx0, sx1, sx2, sx3, sx4, sx5, sx6, tf64, ev3_hold, sxo, sxc, sxp, sxq, sxr, sxs, sxl, sxm, Int.reduceBEq, Int.reduceBNe, Int.reduceLT, Int.reduceLE, Int.reduceEq, Int.reduceGT, Int.reduceGE, Int.reduceToNat, ↓reduceIte, List.reduceReplicate, Nat.reduceAdd, Nat.reduceSub, Nat.reduceMul, Nat.reduceLT, Nat.reduceLeDiff, Nat.reduceBEq, Nat.reduceEqDiff]
  refine ⟨by omega, by omega, _, rfl, ?_⟩
  rw [show zerosL c.depth.length [Value.bool false] = bools (List.replicate c.depth.length false) from zeros_cat b1 false _]
  refine wr_at (A := []) (f := b1) (u := true) rfl b1_len (by rw [List.length_replicate]) (by rw [List.length_replicate]; omega) ?_
  simp (config := { maxSteps := 4000000 }) only [↓sx0, ↓sx1, ↓sx2, ↓sx3, ↓sx4, ↓sx5, ↓sx6, sx0, sx1, sx2, sx3, sx4, sx5, sx6, tf64, ev3_hold, sxo, sxc, sxp, sxq, sxr, sxs, sxl, sxm, Int.reduceBEq, Int.reduceBNe, Int.reduceLT, Int.reduceLE, Int.reduceEq, Int.reduceGT, Int.reduceGE, Int.reduceToNat, ↓reduceIte, List.reduceReplicate, Nat.reduceAdd, Nat.reduceSub, Nat.reduceMul, Nat.reduceLT, Nat.reduceLeDiff, Nat.reduceBEq, Nat.reduceEqDiff]
  refine loop_constH (HO.row (.slice (some ⟨bo, 0, none⟩) c.depth.length c.depth.length) 3 1 (ints (List.replicate c.depth.length (-1))) :: [HO.row (.slice (some ⟨bn, 0, none⟩) c.depth.length c.depth.length) 4 1 (bools ((List.replicate c.depth.length false).set k true))]) ((HImp.cons (HImp.pick (List.mem_append_left _ hbo))).trans (HImp.swap _ _ _ _)) [(4, 4), (6, 12), (14, 14), (42, 119)] (fun q : Nat × Addr => [(6, .slice (some q.2) c.depth.length c.depth.length), (7, I ((t + q.1 : Nat) : Int))])
    (fun q H1 => t + q.1 < c.tide.length ∧ ∃ X Y, isG X c.depth.length (outV c b k t q.1) ∧ isF Y c.depth.length (nowB c b k t q.1) ∧ H1 = HO.row (.slice (some ⟨bo, 0, none⟩) c.depth.length c.depth.length) 3 1 (ints X) :: [HO.row (.slice (some q.2) c.depth.length c.depth.length) 4 1 (bools Y)]) (fun q => c.tide.length - q.1) (0, ⟨bn, 0, none⟩) ?_ ⟨by simpa using ht, _, _, isG.rep _ _, (isF.rep _).set hk (by simp [nowB]) (fun u hu hne => by simp [nowB, hne]), rfl⟩ ?_
  · simp (config := { maxSteps := 4000000 }) only [↓sx0, ↓sx1, ↓sx2, ↓sx3, ↓sx4, ↓sx5, ↓sx6, sx0, sx1, sx2, sx3, sx4, sx5, sx6, tf64, ev3_hold, sxo, sxc, sxp, sxq, sxr, sxs, sxl, sxm, Int.reduceBEq, Int.reduceBNe, Int.reduceLT, Int.reduceLE, Int.reduceEq, Int.reduceGT, Int.reduceGE, Int.reduceToNat, ↓reduceIte, List.reduceReplicate, Nat.reduceAdd, Nat.reduceSub, Nat.reduceMul, Nat.reduceLT, Nat.reduceLeDiff, Nat.reduceBEq, Nat.reduceEqDiff]
    try simp
  rintro ⟨i, a⟩ H1 g1 hinv
  simp only [] at hinv
  obtain ⟨hi, X, Y, hX, hY, rfl⟩ := hinv
  have hYl := hY.1
  refine ⟨?_⟩
  simp (config := { maxSteps := 4000000 }) only [↓sx0, ↓sx1, ↓sx2, ↓sx3, ↓sx4, ↓sx5, ↓sx6, sx0, sx1, sx2, sx3, sx4, sx5, sx6, tf64, ev3_hold, sxo, sxc, sxp, sxq, sxr, sxs, sxl, sxm, Int.reduceBEq, Int.reduceBNe, Int.reduceLT, Int.reduceLE, Int.reduceEq, Int.reduceGT, Int.reduceGE, Int.reduceToNat, ↓reduceIte, List.reduceReplicate, Nat.reduceAdd, Nat.reduceSub, Nat.reduceMul, Nat.reduceLT, Nat.reduceLeDiff, Nat.reduceBEq, Nat.reduceEqDiff]
  refine loop_constH _ (HImp.refl _ _) [(8, 9), (44, 61)] (fun q : Nat × List Int => [(44, I q.1)])
    (fun q H1 => q.1 ≤ c.depth.length ∧ isG q.2 c.depth.length (fun u => if u < q.1 then outV c b k t (i + 1) u else outV c b k t i u) ∧ H1 = HO.row (.slice (some ⟨bo, 0, none⟩) c.depth.length c.depth.length) 3 1 (ints q.2) :: [HO.row (.slice (some a) c.depth.length c.depth.length) 4 1 (bools Y)]) (fun q => c.depth.length - q.1) (0, X) ?_ ⟨Nat.zero_le _, hX.congr fun u hu => by rw [if_neg (by simp)], rfl⟩ ?_
  · simp (config := { maxSteps := 4000000 }) only [↓sx0, ↓sx1, ↓sx2, ↓sx3, ↓sx4, ↓sx5, ↓sx6, sx0, sx1, sx2, sx3, sx4, sx5, sx6, tf64, ev3_hold, sxo, sxc, sxp, sxq, sxr, sxs, sxl, sxm, Int.reduceBEq, Int.reduceBNe, Int.reduceLT, Int.reduceLE, Int.reduceEq, Int.reduceGT, Int.reduceGE, Int.reduceToNat, ↓reduceIte, List.reduceReplicate, Nat.reduceAdd, Nat.reduceSub, Nat.reduceMul, Nat.reduceLT, Nat.reduceLeDiff, Nat.reduceBEq, Nat.reduceEqDiff]
    try simp
  rintro ⟨x, X2⟩ H2 g2 hinv2
  simp only [] at hinv2
  obtain ⟨hx, hX2, rfl⟩ := hinv2
  have hX2l := hX2.1
  by_cases hxn : x = c.depth.length
  case neg =>
    have e7 : ((x : Int) < (c.depth.length : Int)) = True := eq_true (by omega)
    have e8 : wr (x + 1) = ((x + 1 : Nat) : Int) := (wrap_id (by omega)).trans (by omega)
    have hxl : x < c.depth.length := by omega
    have hny : Y[x]? = some (nowB c b k t i x) := by rw [getD_at (show x < Y.length by omega) false, hY.2 x hxl]
    have hox : X2[x]? = some (outV c b k t i x) := (getD_at (show x < X2.length by omega) 0).trans (congrArg some ((hX2.2 x hxl).trans (if_neg (by omega))))
    have hro := row_rdv (w0 := ⟨w, fun _ => False⟩) (H := HO.row (.slice (some ⟨bo, 0, none⟩) c.depth.length c.depth.length) 3 1 (ints X2) :: [HO.row (.slice (some a) c.depth.length c.depth.length) 4 1 (bools Y)]) (E := 3) List.mem_cons_self ⟨_, _, _, rfl, by rw [cat_len i1_len, hX2l], fun h => by cases h⟩
    have hrw := row_rdv (w0 := ⟨w, fun _ => False⟩) (H := HO.row (.slice (some ⟨bo, 0, none⟩) c.depth.length c.depth.length) 3 1 (ints X2) :: [HO.row (.slice (some a) c.depth.length c.depth.length) 4 1 (bools Y)]) (E := 4) (List.mem_cons_of_mem _ List.mem_cons_self) ⟨_, _, _, rfl, by rw [cat_len b1_len, hYl], fun h => by cases h⟩
    have hlt : ∀ u, u ≠ x → (if u < x then outV c b k t (i + 1) u else outV c b k t i u) = (if u < x + 1 then outV c b k t (i + 1) u else outV c b k t i u) := fun u hne => by
      by_cases h : u < x
      · rw [if_pos h, if_pos (by omega)]
      · rw [if_neg h, if_neg (by omega)]
    have hself : ∀ v, v = outV c b k t (i + 1) x → v = (if x < x + 1 then outV c b k t (i + 1) x else outV c b k t i x) := fun v h => by rw [if_pos (by omega), h]
    have hrule : outV c b k t (i + 1) x = if outV c b k t i x < 0 ∧ nowB c b k t i x = true then ((t + i : Nat) : Int) else outV c b k t i x := rfl
    have hsame : ∀ (h : outV c b k t (i + 1) x = outV c b k t i x), isG X2 c.depth.length (fun u => if u < x + 1 then outV c b k t (i + 1) u else outV c b k t i u) := fun h => hX2.congr fun u hu => by
      by_cases hux : u = x
      · subst hux
        rw [if_neg (by omega), if_pos (by omega), h]
      · exact hlt u hux
    cases hnw : nowB c b k t i x with
    | false =>
      rw [hnw] at hny hrule
      refine ⟨?_⟩
      simp (config := { maxSteps := 4000000 }) only [↓sx0, ↓sx1, ↓sx2, ↓sx3, ↓sx4, ↓sx5, ↓sx6, sx0, sx1, sx2, sx3, sx4, sx5, sx6, tf64, ev3_hold, sxo, sxc, sxp, sxq, sxr, sxs, sxl, sxm, Int.reduceBEq, Int.reduceBNe, Int.reduceLT, Int.reduceLE, Int.reduceEq, Int.reduceGT, Int.reduceGE, Int.reduceToNat, ↓reduceIte, List.reduceReplicate, Nat.reduceAdd, Nat.reduceSub, Nat.reduceMul, Nat.reduceLT, Nat.reduceLeDiff, Nat.reduceBEq, Nat.reduceEqDiff, e7]
      refine amid (at_1 hrw b1_len hny rfl fun ad2 => ?_)
      simp (config := { maxSteps := 4000000 }) only [↓sx0, ↓sx1, ↓sx2, ↓sx3, ↓sx4, ↓sx5, ↓sx6, sx0, sx1, sx2, sx3, sx4, sx5, sx6, tf64, ev3_hold, sxo, sxc, sxp, sxq, sxr, sxs, sxl, sxm, Int.reduceBEq, Int.reduceBNe, Int.reduceLT, Int.reduceLE, Int.reduceEq, Int.reduceGT, Int.reduceGE, Int.reduceToNat, ↓reduceIte, List.reduceReplicate, Nat.reduceAdd, Nat.reduceSub, Nat.reduceMul, Nat.reduceLT, Nat.reduceLeDiff, Nat.reduceBEq, Nat.reduceEqDiff, e8]
      exact ⟨(x + 1, X2), _, rfl, HImp.refl _ _, ⟨by simp only []; omega, hsame (by rw [hrule]; simp), rfl⟩, by simp only []; omega⟩
    | true =>
      rw [hnw] at hny hrule
      by_cases ho : outV c b k t i x < 0
      · have p1 : (outV c b k t i x < 0) = True := eq_true ho
        rw [if_pos ⟨ho, rfl⟩] at hrule
        refine ⟨?_⟩
        simp (config := { maxSteps := 4000000 }) only [↓sx0, ↓sx1, ↓sx2, ↓sx3, ↓sx4, ↓sx5, ↓sx6, sx0, sx1, sx2, sx3, sx4, sx5, sx6, tf64, ev3_hold, sxo, sxc, sxp, sxq, sxr, sxs, sxl, sxm, Int.reduceBEq, Int.reduceBNe, Int.reduceLT, Int.reduceLE, Int.reduceEq, Int.reduceGT, Int.reduceGE, Int.reduceToNat, ↓reduceIte, List.reduceReplicate, Nat.reduceAdd, Nat.reduceSub, Nat.reduceMul, Nat.reduceLT, Nat.reduceLeDiff, Nat.reduceBEq, Nat.reduceEqDiff, e7]
        refine amid (at_1 hrw b1_len hny rfl fun ad2 => ?_)
        simp (config := { maxSteps := 4000000 }) only [↓sx0, ↓sx1, ↓sx2, ↓sx3, ↓sx4, ↓sx5, ↓sx6, sx0, sx1, sx2, sx3, sx4, sx5, sx6, tf64, ev3_hold, sxo, sxc, sxp, sxq, sxr, sxs, sxl, sxm, Int.reduceBEq, Int.reduceBNe, Int.reduceLT, Int.reduceLE, Int.reduceEq, Int.reduceGT, Int.reduceGE, Int.reduceToNat, ↓reduceIte, List.reduceReplicate, Nat.reduceAdd, Nat.reduceSub, Nat.reduceMul, Nat.reduceLT, Nat.reduceLeDiff, Nat.reduceBEq, Nat.reduceEqDiff]
        refine at_1 hro i1_len hox rfl fun ad3 => ?_
        simp (config := { maxSteps := 4000000 }) only [↓sx0, ↓sx1, ↓sx2, ↓sx3, ↓sx4, ↓sx5, ↓sx6, sx0, sx1, sx2, sx3, sx4, sx5, sx6, tf64, ev3_hold, sxo, sxc, sxp, sxq, sxr, sxs, sxl, sxm, Int.reduceBEq, Int.reduceBNe, Int.reduceLT, Int.reduceLE, Int.reduceEq, Int.reduceGT, Int.reduceGE, Int.reduceToNat, ↓reduceIte, List.reduceReplicate, Nat.reduceAdd, Nat.reduceSub, Nat.reduceMul, Nat.reduceLT, Nat.reduceLeDiff, Nat.reduceBEq, Nat.reduceEqDiff, p1]
        refine ⟨by omega, by omega, _, rfl, ?_⟩
        refine wr_at (A := []) (f := i1) (u := ((t + i : Nat) : Int)) rfl i1_len (by omega) (by omega) ?_
        simp (config := { maxSteps := 4000000 }) only [↓sx0, ↓sx1, ↓sx2, ↓sx3, ↓sx4, ↓sx5, ↓sx6, sx0, sx1, sx2, sx3, sx4, sx5, sx6, tf64, ev3_hold, sxo, sxc, sxp, sxq, sxr, sxs, sxl, sxm, Int.reduceBEq, Int.reduceBNe, Int.reduceLT, Int.reduceLE, Int.reduceEq, Int.reduceGT, Int.reduceGE, Int.reduceToNat, ↓reduceIte, List.reduceReplicate, Nat.reduceAdd, Nat.reduceSub, Nat.reduceMul, Nat.reduceLT, Nat.reduceLeDiff, Nat.reduceBEq, Nat.reduceEqDiff, e8]
        exact ⟨(x + 1, X2.set x ((t + i : Nat) : Int)), _, rfl, HImp.refl _ _, ⟨by simp only []; omega, hX2.set hxl (hself _ hrule.symm) (fun u _ hne => hlt u hne), rfl⟩, by simp only []; omega⟩
      · have p1 : (outV c b k t i x < 0) = False := eq_false ho
        rw [if_neg (fun h => ho h.1)] at hrule
        refine ⟨?_⟩
        simp (config := { maxSteps := 4000000 }) only [↓sx0, ↓sx1, ↓sx2, ↓sx3, ↓sx4, ↓sx5, ↓sx6, sx0, sx1, sx2, sx3, sx4, sx5, sx6, tf64, ev3_hold, sxo, sxc, sxp, sxq, sxr, sxs, sxl, sxm, Int.reduceBEq, Int.reduceBNe, Int.reduceLT, Int.reduceLE, Int.reduceEq, Int.reduceGT, Int.reduceGE, Int.reduceToNat, ↓reduceIte, List.reduceReplicate, Nat.reduceAdd, Nat.reduceSub, Nat.reduceMul, Nat.reduceLT, Nat.reduceLeDiff, Nat.reduceBEq, Nat.reduceEqDiff, e7]
        refine amid (at_1 hrw b1_len hny rfl fun ad2 => ?_)
        simp (config := { maxSteps := 4000000 }) only [↓sx0, ↓sx1, ↓sx2, ↓sx3, ↓sx4, ↓sx5, ↓sx6, sx0, sx1, sx2, sx3, sx4, sx5, sx6, tf64, ev3_hold, sxo, sxc, sxp, sxq, sxr, sxs, sxl, sxm, Int.reduceBEq, Int.reduceBNe, Int.reduceLT, Int.reduceLE, Int.reduceEq, Int.reduceGT, Int.reduceGE, Int.reduceToNat, ↓reduceIte, List.reduceReplicate, Nat.reduceAdd, Nat.reduceSub, Nat.reduceMul, Nat.reduceLT, Nat.reduceLeDiff, Nat.reduceBEq, Nat.reduceEqDiff]
        refine at_1 hro i1_len hox rfl fun ad3 => ?_
        simp (config := { maxSteps := 4000000 }) only [↓sx0, ↓sx1, ↓sx2, ↓sx3, ↓sx4, ↓sx5, ↓sx6, sx0, sx1, sx2, sx3, sx4, sx5, sx6, tf64, ev3_hold, sxo, sxc, sxp, sxq, sxr, sxs, sxl, sxm, Int.reduceBEq, Int.reduceBNe, Int.reduceLT, Int.reduceLE, Int.reduceEq, Int.reduceGT, Int.reduceGE, Int.reduceToNat, ↓reduceIte, List.reduceReplicate, Nat.reduceAdd, Nat.reduceSub, Nat.reduceMul, Nat.reduceLT, Nat.reduceLeDiff, Nat.reduceBEq, Nat.reduceEqDiff, p1, e8]
        exact ⟨(x + 1, X2), _, rfl, HImp.refl _ _, ⟨by simp only []; omega, hsame hrule, rfl⟩, by simp only []; omega⟩
  subst hxn
  have hXn : isG X2 c.depth.length (outV c b k t (i + 1)) := hX2.congr fun u hu => by rw [if_pos hu]
  have e7 : ((c.depth.length : Int) < (c.depth.length : Int)) = False := eq_false (by omega)
  have e9 : wr (((t + i : Nat) : Int) + 1) = ((t + (i + 1) : Nat) : Int) := (wrap_id (by omega)).trans (by omega)
  by_cases hend : t + (i + 1) = c.tide.length
  · have e10 : (((t + (i + 1) : Nat) : Int) = (c.tide.length : Int)) = True := eq_true (by omega)
    have hXe := hXn.eq
    rw [show i + 1 = c.tide.length - t by omega] at hXe
    refine ⟨?_⟩
    simp (config := { maxSteps := 4000000 }) only [↓sx0, ↓sx1, ↓sx2, ↓sx3, ↓sx4, ↓sx5, ↓sx6, sx0, sx1, sx2, sx3, sx4, sx5, sx6, tf64, ev3_hold, sxo, sxc, sxp, sxq, sxr, sxs, sxl, sxm, Int.reduceBEq, Int.reduceBNe, Int.reduceLT, Int.reduceLE, Int.reduceEq, Int.reduceGT, Int.reduceGE, Int.reduceToNat, ↓reduceIte, List.reduceReplicate, Nat.reduceAdd, Nat.reduceSub, Nat.reduceMul, Nat.reduceLT, Nat.reduceLeDiff, Nat.reduceBEq, Nat.reduceEqDiff, e7, e9]
    refine ld_olda (by simp [add_block]) m3 id ?_
    simp (config := { maxSteps := 4000000 }) only [↓sx0, ↓sx1, ↓sx2, ↓sx3, ↓sx4, ↓sx5, ↓sx6, sx0, sx1, sx2, sx3, sx4, sx5, sx6, tf64, ev3_hold, sxo, sxc, sxp, sxq, sxr, sxs, sxl, sxm, Int.reduceBEq, Int.reduceBNe, Int.reduceLT, Int.reduceLE, Int.reduceEq, Int.reduceGT, Int.reduceGE, Int.reduceToNat, ↓reduceIte, List.reduceReplicate, Nat.reduceAdd, Nat.reduceSub, Nat.reduceMul, Nat.reduceLT, Nat.reduceLeDiff, Nat.reduceBEq, Nat.reduceEqDiff, e10]
    rw [hXe]
    exact Got.row (by rw [List.length_map, List.length_range]) List.mem_cons_self (fun h => by cases h)
  have e10 : (((t + (i + 1) : Nat) : Int) = (c.tide.length : Int)) = False := eq_false (by omega)
  have hti : t + i + 1 < c.tide.length := by omega
  have hct : (canL c b)[t + (i + 1)]? = some (canT c b (t + i + 1)) := by
    unfold canL
    rw [List.getElem?_map, List.getElem?_range (by omega)]
    rfl
  obtain ⟨qc, hqc, hqs⟩ := hcv _ _ hct
  have hql := hqs.le b1_len (by omega)
  have hqr := hqs.rd0
  refine ⟨?_⟩
  simp (config := { maxSteps := 4000000 }) only [↓sx0, ↓sx1, ↓sx2, ↓sx3, ↓sx4, ↓sx5, ↓sx6, sx0, sx1, sx2, sx3, sx4, sx5, sx6, tf64, ev3_hold, sxo, sxc, sxp, sxq, sxr, sxs, sxl, sxm, Int.reduceBEq, Int.reduceBNe, Int.reduceLT, Int.reduceLE, Int.reduceEq, Int.reduceGT, Int.reduceGE, Int.reduceToNat, ↓reduceIte, List.reduceReplicate, Nat.reduceAdd, Nat.reduceSub, Nat.reduceMul, Nat.reduceLT, Nat.reduceLeDiff, Nat.reduceBEq, Nat.reduceEqDiff, e7, e9]
  refine ld_olda (by simp [add_block]) m3 id ?_
  simp (config := { maxSteps := 4000000 }) only [↓sx0, ↓sx1, ↓sx2, ↓sx3, ↓sx4, ↓sx5, ↓sx6, sx0, sx1, sx2, sx3, sx4, sx5, sx6, tf64, ev3_hold, sxo, sxc, sxp, sxq, sxr, sxs, sxl, sxm, Int.reduceBEq, Int.reduceBNe, Int.reduceLT, Int.reduceLE, Int.reduceEq, Int.reduceGT, Int.reduceGE, Int.reduceToNat, ↓reduceIte, List.reduceReplicate, Nat.reduceAdd, Nat.reduceSub, Nat.reduceMul, Nat.reduceLT, Nat.reduceLeDiff, Nat.reduceBEq, Nat.reduceEqDiff, e10]
  refine ⟨by omega, by omega, by omega, fun bz => ?_⟩
  refine loop_constH (HO.row (.slice (some ⟨bz, 0, none⟩) c.depth.length c.depth.length) 4 1 (bools (List.replicate c.depth.length false)) :: HO.row (.slice (some ⟨bo, 0, none⟩) c.depth.length c.depth.length) 3 1 (ints X2) :: [HO.row (.slice (some a) c.depth.length c.depth.length) 4 1 (bools Y)]) (by rw [show bools (List.replicate c.depth.length false) = zerosL c.depth.length [Value.bool false] from (zeros_cat b1 false _).symm]; exact HImp.refl _ _) [(11, 12), (14, 14), (78, 118)] (fun q : Nat × List Bool => [(78, I q.1)])
    (fun q H1 => q.1 ≤ c.depth.length ∧ isF q.2 c.depth.length (nextB c b (t + i + 1) (nowB c b k t i) q.1 0) ∧ H1 = HO.row (.slice (some ⟨bz, 0, none⟩) c.depth.length c.depth.length) 4 1 (bools q.2) :: HO.row (.slice (some ⟨bo, 0, none⟩) c.depth.length c.depth.length) 3 1 (ints X2) :: [HO.row (.slice (some a) c.depth.length c.depth.length) 4 1 (bools Y)]) (fun q => c.depth.length - q.1) (0, List.replicate c.depth.length false) ?_ ⟨Nat.zero_le _, (isF.rep _).congr fun u _ => (nextB_zero c b _ _ u).symm, rfl⟩ ?_
  · simp (config := { maxSteps := 4000000 }) only [↓sx0, ↓sx1, ↓sx2, ↓sx3, ↓sx4, ↓sx5, ↓sx6, sx0, sx1, sx2, sx3, sx4, sx5, sx6, tf64, ev3_hold, sxo, sxc, sxp, sxq, sxr, sxs, sxl, sxm, Int.reduceBEq, Int.reduceBNe, Int.reduceLT, Int.reduceLE, Int.reduceEq, Int.reduceGT, Int.reduceGE, Int.reduceToNat, ↓reduceIte, List.reduceReplicate, Nat.reduceAdd, Nat.reduceSub, Nat.reduceMul, Nat.reduceLT, Nat.reduceLeDiff, Nat.reduceBEq, Nat.reduceEqDiff]
    try simp
  rintro ⟨y, Z⟩ H3 g3 hinv3
  simp only [] at hinv3
  obtain ⟨hy, hZ, rfl⟩ := hinv3
  by_cases hyn : y = c.depth.length
  · subst hyn
    refine ⟨?_⟩
    simp (config := { maxSteps := 4000000 }) only [↓sx0, ↓sx1, ↓sx2, ↓sx3, ↓sx4, ↓sx5, ↓sx6, sx0, sx1, sx2, sx3, sx4, sx5, sx6, tf64, ev3_hold, sxo, sxc, sxp, sxq, sxr, sxs, sxl, sxm, Int.reduceBEq, Int.reduceBNe, Int.reduceLT, Int.reduceLE, Int.reduceEq, Int.reduceGT, Int.reduceGE, Int.reduceToNat, ↓reduceIte, List.reduceReplicate, Nat.reduceAdd, Nat.reduceSub, Nat.reduceMul, Nat.reduceLT, Nat.reduceLeDiff, Nat.reduceBEq, Nat.reduceEqDiff, e7]
    exact ⟨(i + 1, ⟨bz, 0, none⟩), _, ⟨rfl, rfl⟩, (HImp.swap _ _ _ _).trans (HImp.sub (((List.nil_sublist _).cons_cons _).cons_cons _)), ⟨by simp only []; omega, X2, Z, hXn, hZ.congr fun u hu => nextB_end c b k t i u, rfl⟩, by simp only []; omega⟩
  have e11 : ((y : Int) < (c.depth.length : Int)) = True := eq_true (by omega)
  have e12 : wr (y + 1) = ((y + 1 : Nat) : Int) := (wrap_id (by omega)).trans (by omega)
  have hyl : y < c.depth.length := by omega
  have hny : Y[y]? = some (nowB c b k t i y) := by rw [getD_at (show y < Y.length by omega) false, hY.2 y hyl]
  have hrw := row_rdv (w0 := ⟨w, fun _ => False⟩) (H := HO.row (.slice (some ⟨bz, 0, none⟩) c.depth.length c.depth.length) 4 1 (bools Z) :: HO.row (.slice (some ⟨bo, 0, none⟩) c.depth.length c.depth.length) 3 1 (ints X2) :: [HO.row (.slice (some a) c.depth.length c.depth.length) 4 1 (bools Y)]) (E := 4) (v := .slice (some a) c.depth.length c.depth.length) (xs := bools Y) (List.mem_cons_of_mem _ (List.mem_cons_of_mem _ List.mem_cons_self)) ⟨_, _, _, rfl, by rw [cat_len b1_len, hYl], fun h => by cases h⟩
  have hnt : (nearL c)[y]? = some (nts (nbL c.W c.H y)) := by
    unfold nearL
    rw [List.getElem?_map, List.getElem?_range hyl]
    rfl
  obtain ⟨qn, hqn, hqns⟩ := hnv _ _ hnt
  have hqnl := hqns.le i1_len (by omega)
  have hqnr := hqns.rd0
  have hnl7 := nbL_len c.W c.H y
  have hntl : (nts (nbL c.W c.H y)).length = (nbL c.W c.H y).length := by unfold nts; rw [List.length_map]
  obtain ⟨qa, ql, qcp⟩ := qn
  simp only [] at hqnl hqnr hqns
  obtain ⟨is, his⟩ : ∃ is, nowB c b k t i y = is := ⟨_, rfl⟩
  rw [his] at hny
  refine ⟨?_⟩
  simp (config := { maxSteps := 4000000 }) only [↓sx0, ↓sx1, ↓sx2, ↓sx3, ↓sx4, ↓sx5, ↓sx6, sx0, sx1, sx2, sx3, sx4, sx5, sx6, tf64, ev3_hold, sxo, sxc, sxp, sxq, sxr, sxs, sxl, sxm, Int.reduceBEq, Int.reduceBNe, Int.reduceLT, Int.reduceLE, Int.reduceEq, Int.reduceGT, Int.reduceGE, Int.reduceToNat, ↓reduceIte, List.reduceReplicate, Nat.reduceAdd, Nat.reduceSub, Nat.reduceMul, Nat.reduceLT, Nat.reduceLeDiff, Nat.reduceBEq, Nat.reduceEqDiff, e11]
  refine amid (at_1 hrw b1_len hny rfl fun ad2 => ?_)
  simp (config := { maxSteps := 4000000 }) only [↓sx0, ↓sx1, ↓sx2, ↓sx3, ↓sx4, ↓sx5, ↓sx6, sx0, sx1, sx2, sx3, sx4, sx5, sx6, tf64, ev3_hold, sxo, sxc, sxp, sxq, sxr, sxs, sxl, sxm, Int.reduceBEq, Int.reduceBNe, Int.reduceLT, Int.reduceLE, Int.reduceEq, Int.reduceGT, Int.reduceGE, Int.reduceToNat, ↓reduceIte, List.reduceReplicate, Nat.reduceAdd, Nat.reduceSub, Nat.reduceMul, Nat.reduceLT, Nat.reduceLeDiff, Nat.reduceBEq, Nat.reduceEqDiff]
  refine ld_olda (by simp [add_block]) m15 id ?_
  simp (config := { maxSteps := 4000000 }) only [↓sx0, ↓sx1, ↓sx2, ↓sx3, ↓sx4, ↓sx5, ↓sx6, sx0, sx1, sx2, sx3, sx4, sx5, sx6, tf64, ev3_hold, sxo, sxc, sxp, sxq, sxr, sxs, sxl, sxm, Int.reduceBEq, Int.reduceBNe, Int.reduceLT, Int.reduceLE, Int.reduceEq, Int.reduceGT, Int.reduceGE, Int.reduceToNat, ↓reduceIte, List.reduceReplicate, Nat.reduceAdd, Nat.reduceSub, Nat.reduceMul, Nat.reduceLT, Nat.reduceLeDiff, Nat.reduceBEq, Nat.reduceEqDiff]
  refine at_1 (hrn _) slq_len hqn rfl fun ad3 => ?_
  simp (config := { maxSteps := 4000000 }) only [↓sx0, ↓sx1, ↓sx2, ↓sx3, ↓sx4, ↓sx5, ↓sx6, sx0, sx1, sx2, sx3, sx4, sx5, sx6, tf64, ev3_hold, sxo, sxc, sxp, sxq, sxr, sxs, sxl, sxm, Int.reduceBEq, Int.reduceBNe, Int.reduceLT, Int.reduceLE, Int.reduceEq, Int.reduceGT, Int.reduceGE, Int.reduceToNat, ↓reduceIte, List.reduceReplicate, Nat.reduceAdd, Nat.reduceSub, Nat.reduceMul, Nat.reduceLT, Nat.reduceLeDiff, Nat.reduceBEq, Nat.reduceEqDiff]
  refine loop_constH _ (HImp.refl _ _) [(14, 14), (91, 117)] (fun q : Nat × List Bool => [(91, I q.1)])
    (fun q H1 => q.1 ≤ (nbL c.W c.H y).length ∧ isF q.2 c.depth.length (nextB c b (t + i + 1) (nowB c b k t i) y q.1) ∧ H1 = HO.row (.slice (some ⟨bz, 0, none⟩) c.depth.length c.depth.length) 4 1 (bools q.2) :: HO.row (.slice (some ⟨bo, 0, none⟩) c.depth.length c.depth.length) 3 1 (ints X2) :: [HO.row (.slice (some a) c.depth.length c.depth.length) 4 1 (bools Y)]) (fun q => (nbL c.W c.H y).length - q.1) (0, Z) ?_ ⟨Nat.zero_le _, hZ, rfl⟩ ?_
  · simp (config := { maxSteps := 4000000 }) only [↓sx0, ↓sx1, ↓sx2, ↓sx3, ↓sx4, ↓sx5, ↓sx6, sx0, sx1, sx2, sx3, sx4, sx5, sx6, tf64, ev3_hold, sxo, sxc, sxp, sxq, sxr, sxs, sxl, sxm, Int.reduceBEq, Int.reduceBNe, Int.reduceLT, Int.reduceLE, Int.reduceEq, Int.reduceGT, Int.reduceGE, Int.reduceToNat, ↓reduceIte, List.reduceReplicate, Nat.reduceAdd, Nat.reduceSub, Nat.reduceMul, Nat.reduceLT, Nat.reduceLeDiff, Nat.reduceBEq, Nat.reduceEqDiff]
    try simp
  rintro ⟨j, Z2⟩ H4 g4 hinv4
  simp only [] at hinv4
  obtain ⟨hj, hZ2, rfl⟩ := hinv4
  have hZ2l := hZ2.1
  by_cases hjn : j = (nbL c.W c.H y).length
  · have e13 : ((j : Int) < (ql : Int)) = False := eq_false (by omega)
    refine ⟨?_⟩
    simp (config := { maxSteps := 4000000 }) only [↓sx0, ↓sx1, ↓sx2, ↓sx3, ↓sx4, ↓sx5, ↓sx6, sx0, sx1, sx2, sx3, sx4, sx5, sx6, tf64, ev3_hold, sxo, sxc, sxp, sxq, sxr, sxs, sxl, sxm, Int.reduceBEq, Int.reduceBNe, Int.reduceLT, Int.reduceLE, Int.reduceEq, Int.reduceGT, Int.reduceGE, Int.reduceToNat, ↓reduceIte, List.reduceReplicate, Nat.reduceAdd, Nat.reduceSub, Nat.reduceMul, Nat.reduceLT, Nat.reduceLeDiff, Nat.reduceBEq, Nat.reduceEqDiff, e13, e12]
    exact ⟨(y + 1, Z2), _, rfl, HImp.refl _ _, ⟨by simp only []; omega, hZ2.congr fun u hu => by rw [hjn]; exact nextB_row c b _ _ y u, rfl⟩, by simp only []; omega⟩
  have e13 : ((j : Int) < (ql : Int)) = True := eq_true (by omega)
  have e14 : wr (j + 1) = ((j + 1 : Nat) : Int) := (wrap_id (by omega)).trans (by omega)
  have hjl : j < (nbL c.W c.H y).length := by omega
  have hm := List.getElem?_eq_getElem hjl
  have hmlt : (nbL c.W c.H y)[j] < c.depth.length := by
    have := nbL_lt (W := c.W) (H := c.H) (k := y) (by have := hok.dims; omega) _ (List.getElem_mem hjl)
    have := hok.dims
    omega
  obtain ⟨m, hme⟩ : ∃ m, (nbL c.W c.H y)[j] = m := ⟨_, rfl⟩
  rw [hme] at hm hmlt
  have hmi : (nts (nbL c.W c.H y))[j]? = some (m : Int) := by unfold nts; rw [List.getElem?_map, hm]; rfl
  have hzm : Z2[m]? = some (nextB c b (t + i + 1) (nowB c b k t i) y j m) := by rw [getD_at (show m < Z2.length by omega) false, hZ2.2 m hmlt]
  have hrz := row_rdv (w0 := ⟨w, fun _ => False⟩) (H := HO.row (.slice (some ⟨bz, 0, none⟩) c.depth.length c.depth.length) 4 1 (bools Z2) :: HO.row (.slice (some ⟨bo, 0, none⟩) c.depth.length c.depth.length) 3 1 (ints X2) :: [HO.row (.slice (some a) c.depth.length c.depth.length) 4 1 (bools Y)]) (E := 4) List.mem_cons_self ⟨_, _, _, rfl, by rw [cat_len b1_len, hZ2l], fun h => by cases h⟩
  have hstp := nextB_step c b (t + i + 1) (nowB c b k t i) hm
  have hoth : ∀ u, u < c.depth.length → u ≠ m → nextB c b (t + i + 1) (nowB c b k t i) y j u = nextB c b (t + i + 1) (nowB c b k t i) y (j + 1) u := fun u _ hne => by
    rw [hstp u, decide_eq_false hne, Bool.false_and, Bool.or_false]
  have hstm := hstp m
  rw [decide_eq_true rfl, Bool.true_and, his] at hstm
  cases hz : nextB c b (t + i + 1) (nowB c b k t i) y j m with
  | true =>
    rw [hz] at hzm hstm
    rw [Bool.true_or] at hstm
    refine ⟨?_⟩
    simp (config := { maxSteps := 4000000 }) only [↓sx0, ↓sx1, ↓sx2, ↓sx3, ↓sx4, ↓sx5, ↓sx6, sx0, sx1, sx2, sx3, sx4, sx5, sx6, tf64, ev3_hold, sxo, sxc, sxp, sxq, sxr, sxs, sxl, sxm, Int.reduceBEq, Int.reduceBNe, Int.reduceLT, Int.reduceLE, Int.reduceEq, Int.reduceGT, Int.reduceGE, Int.reduceToNat, ↓reduceIte, List.reduceReplicate, Nat.reduceAdd, Nat.reduceSub, Nat.reduceMul, Nat.reduceLT, Nat.reduceLeDiff, Nat.reduceBEq, Nat.reduceEqDiff, e13]
    refine amid (at_1 (hqnr _) i1_len hmi rfl fun ad4 => ?_)
    simp (config := { maxSteps := 4000000 }) only [↓sx0, ↓sx1, ↓sx2, ↓sx3, ↓sx4, ↓sx5, ↓sx6, sx0, sx1, sx2, sx3, sx4, sx5, sx6, tf64, ev3_hold, sxo, sxc, sxp, sxq, sxr, sxs, sxl, sxm, Int.reduceBEq, Int.reduceBNe, Int.reduceLT, Int.reduceLE, Int.reduceEq, Int.reduceGT, Int.reduceGE, Int.reduceToNat, ↓reduceIte, List.reduceReplicate, Nat.reduceAdd, Nat.reduceSub, Nat.reduceMul, Nat.reduceLT, Nat.reduceLeDiff, Nat.reduceBEq, Nat.reduceEqDiff]
    refine at_1 hrz b1_len hzm rfl fun ad5 => ?_
    simp (config := { maxSteps := 4000000 }) only [↓sx0, ↓sx1, ↓sx2, ↓sx3, ↓sx4, ↓sx5, ↓sx6, sx0, sx1, sx2, sx3, sx4, sx5, sx6, tf64, ev3_hold, sxo, sxc, sxp, sxq, sxr, sxs, sxl, sxm, Int.reduceBEq, Int.reduceBNe, Int.reduceLT, Int.reduceLE, Int.reduceEq, Int.reduceGT, Int.reduceGE, Int.reduceToNat, ↓reduceIte, List.reduceReplicate, Nat.reduceAdd, Nat.reduceSub, Nat.reduceMul, Nat.reduceLT, Nat.reduceLeDiff, Nat.reduceBEq, Nat.reduceEqDiff]
    refine ⟨by omega, by omega, _, rfl, ?_⟩
    refine wr_at (A := []) (f := b1) (u := true) rfl b1_len (by omega) (by omega) ?_
    simp (config := { maxSteps := 4000000 }) only [↓sx0, ↓sx1, ↓sx2, ↓sx3, ↓sx4, ↓sx5, ↓sx6, sx0, sx1, sx2, sx3, sx4, sx5, sx6, tf64, ev3_hold, sxo, sxc, sxp, sxq, sxr, sxs, sxl, sxm, Int.reduceBEq, Int.reduceBNe, Int.reduceLT, Int.reduceLE, Int.reduceEq, Int.reduceGT, Int.reduceGE, Int.reduceToNat, ↓reduceIte, List.reduceReplicate, Nat.reduceAdd, Nat.reduceSub, Nat.reduceMul, Nat.reduceLT, Nat.reduceLeDiff, Nat.reduceBEq, Nat.reduceEqDiff, e14]
    exact ⟨(j + 1, Z2.set m true), _, rfl, HImp.refl _ _, ⟨by simp only []; omega, hZ2.set hmlt hstm.symm hoth, rfl⟩, by simp only []; omega⟩
  | false =>
  rw [hz] at hzm hstm
  rw [Bool.false_or] at hstm
  cases is with
  | false =>
    rw [Bool.false_and] at hstm
    refine ⟨?_⟩
    simp (config := { maxSteps := 4000000 }) only [↓sx0, ↓sx1, ↓sx2, ↓sx3, ↓sx4, ↓sx5, ↓sx6, sx0, sx1, sx2, sx3, sx4, sx5, sx6, tf64, ev3_hold, sxo, sxc, sxp, sxq, sxr, sxs, sxl, sxm, Int.reduceBEq, Int.reduceBNe, Int.reduceLT, Int.reduceLE, Int.reduceEq, Int.reduceGT, Int.reduceGE, Int.reduceToNat, ↓reduceIte, List.reduceReplicate, Nat.reduceAdd, Nat.reduceSub, Nat.reduceMul, Nat.reduceLT, Nat.reduceLeDiff, Nat.reduceBEq, Nat.reduceEqDiff, e13]
    refine amid (at_1 (hqnr _) i1_len hmi rfl fun ad4 => ?_)
    simp (config := { maxSteps := 4000000 }) only [↓sx0, ↓sx1, ↓sx2, ↓sx3, ↓sx4, ↓sx5, ↓sx6, sx0, sx1, sx2, sx3, sx4, sx5, sx6, tf64, ev3_hold, sxo, sxc, sxp, sxq, sxr, sxs, sxl, sxm, Int.reduceBEq, Int.reduceBNe, Int.reduceLT, Int.reduceLE, Int.reduceEq, Int.reduceGT, Int.reduceGE, Int.reduceToNat, ↓reduceIte, List.reduceReplicate, Nat.reduceAdd, Nat.reduceSub, Nat.reduceMul, Nat.reduceLT, Nat.reduceLeDiff, Nat.reduceBEq, Nat.reduceEqDiff]
    refine at_1 hrz b1_len hzm rfl fun ad5 => ?_
    simp (config := { maxSteps := 4000000 }) only [↓sx0, ↓sx1, ↓sx2, ↓sx3, ↓sx4, ↓sx5, ↓sx6, sx0, sx1, sx2, sx3, sx4, sx5, sx6, tf64, ev3_hold, sxo, sxc, sxp, sxq, sxr, sxs, sxl, sxm, Int.reduceBEq, Int.reduceBNe, Int.reduceLT, Int.reduceLE, Int.reduceEq, Int.reduceGT, Int.reduceGE, Int.reduceToNat, ↓reduceIte, List.reduceReplicate, Nat.reduceAdd, Nat.reduceSub, Nat.reduceMul, Nat.reduceLT, Nat.reduceLeDiff, Nat.reduceBEq, Nat.reduceEqDiff]
    refine ⟨by omega, by omega, _, rfl, ?_⟩
    refine wr_at (A := []) (f := b1) (u := false) rfl b1_len (by omega) (by omega) ?_
    simp (config := { maxSteps := 4000000 }) only [↓sx0, ↓sx1, ↓sx2, ↓sx3, ↓sx4, ↓sx5, ↓sx6, sx0, sx1, sx2, sx3, sx4, sx5, sx6, tf64, ev3_hold, sxo, sxc, sxp, sxq, sxr, sxs, sxl, sxm, Int.reduceBEq, Int.reduceBNe, Int.reduceLT, Int.reduceLE, Int.reduceEq, Int.reduceGT, Int.reduceGE, Int.reduceToNat, ↓reduceIte, List.reduceReplicate, Nat.reduceAdd, Nat.reduceSub, Nat.reduceMul, Nat.reduceLT, Nat.reduceLeDiff, Nat.reduceBEq, Nat.reduceEqDiff, e14]
    exact ⟨(j + 1, Z2.set m false), _, rfl, HImp.refl _ _, ⟨by simp only []; omega, hZ2.set hmlt hstm.symm hoth, rfl⟩, by simp only []; omega⟩
  | true =>
    rw [Bool.true_and] at hstm
    have hcm : (canT c b (t + i + 1))[m]? = some (canB c b (t + i + 1) m) := by
      unfold canT
      rw [List.getElem?_map, List.getElem?_range hmlt]
      rfl
    refine ⟨?_⟩
    simp (config := { maxSteps := 4000000 }) only [↓sx0, ↓sx1, ↓sx2, ↓sx3, ↓sx4, ↓sx5, ↓sx6, sx0, sx1, sx2, sx3, sx4, sx5, sx6, tf64, ev3_hold, sxo, sxc, sxp, sxq, sxr, sxs, sxl, sxm, Int.reduceBEq, Int.reduceBNe, Int.reduceLT, Int.reduceLE, Int.reduceEq, Int.reduceGT, Int.reduceGE, Int.reduceToNat, ↓reduceIte, List.reduceReplicate, Nat.reduceAdd, Nat.reduceSub, Nat.reduceMul, Nat.reduceLT, Nat.reduceLeDiff, Nat.reduceBEq, Nat.reduceEqDiff, e13]
    refine amid (at_1 (hqnr _) i1_len hmi rfl fun ad4 => ?_)
    simp (config := { maxSteps := 4000000 }) only [↓sx0, ↓sx1, ↓sx2, ↓sx3, ↓sx4, ↓sx5, ↓sx6, sx0, sx1, sx2, sx3, sx4, sx5, sx6, tf64, ev3_hold, sxo, sxc, sxp, sxq, sxr, sxs, sxl, sxm, Int.reduceBEq, Int.reduceBNe, Int.reduceLT, Int.reduceLE, Int.reduceEq, Int.reduceGT, Int.reduceGE, Int.reduceToNat, ↓reduceIte, List.reduceReplicate, Nat.reduceAdd, Nat.reduceSub, Nat.reduceMul, Nat.reduceLT, Nat.reduceLeDiff, Nat.reduceBEq, Nat.reduceEqDiff]
    refine at_1 hrz b1_len hzm rfl fun ad5 => ?_
    simp (config := { maxSteps := 4000000 }) only [↓sx0, ↓sx1, ↓sx2, ↓sx3, ↓sx4, ↓sx5, ↓sx6, sx0, sx1, sx2, sx3, sx4, sx5, sx6, tf64, ev3_hold, sxo, sxc, sxp, sxq, sxr, sxs, sxl, sxm, Int.reduceBEq, Int.reduceBNe, Int.reduceLT, Int.reduceLE, Int.reduceEq, Int.reduceGT, Int.reduceGE, Int.reduceToNat, ↓reduceIte, List.reduceReplicate, Nat.reduceAdd, Nat.reduceSub, Nat.reduceMul, Nat.reduceLT, Nat.reduceLeDiff, Nat.reduceBEq, Nat.reduceEqDiff]
    refine ld_olda (by simp [add_block]) m14 id ?_
    simp (config := { maxSteps := 4000000 }) only [↓sx0, ↓sx1, ↓sx2, ↓sx3, ↓sx4, ↓sx5, ↓sx6, sx0, sx1, sx2, sx3, sx4, sx5, sx6, tf64, ev3_hold, sxo, sxc, sxp, sxq, sxr, sxs, sxl, sxm, Int.reduceBEq, Int.reduceBNe, Int.reduceLT, Int.reduceLE, Int.reduceEq, Int.reduceGT, Int.reduceGE, Int.reduceToNat, ↓reduceIte, List.reduceReplicate, Nat.reduceAdd, Nat.reduceSub, Nat.reduceMul, Nat.reduceLT, Nat.reduceLeDiff, Nat.reduceBEq, Nat.reduceEqDiff]
    refine at_1 (hrc _) slq_len hqc rfl fun ad6 => ?_
    simp (config := { maxSteps := 4000000 }) only [↓sx0, ↓sx1, ↓sx2, ↓sx3, ↓sx4, ↓sx5, ↓sx6, sx0, sx1, sx2, sx3, sx4, sx5, sx6, tf64, ev3_hold, sxo, sxc, sxp, sxq, sxr, sxs, sxl, sxm, Int.reduceBEq, Int.reduceBNe, Int.reduceLT, Int.reduceLE, Int.reduceEq, Int.reduceGT, Int.reduceGE, Int.reduceToNat, ↓reduceIte, List.reduceReplicate, Nat.reduceAdd, Nat.reduceSub, Nat.reduceMul, Nat.reduceLT, Nat.reduceLeDiff, Nat.reduceBEq, Nat.reduceEqDiff]
    refine at_1 (hqr _) b1_len hcm rfl fun ad7 => ?_
    simp (config := { maxSteps := 4000000 }) only [↓sx0, ↓sx1, ↓sx2, ↓sx3, ↓sx4, ↓sx5, ↓sx6, sx0, sx1, sx2, sx3, sx4, sx5, sx6, tf64, ev3_hold, sxo, sxc, sxp, sxq, sxr, sxs, sxl, sxm, Int.reduceBEq, Int.reduceBNe, Int.reduceLT, Int.reduceLE, Int.reduceEq, Int.reduceGT, Int.reduceGE, Int.reduceToNat, ↓reduceIte, List.reduceReplicate, Nat.reduceAdd, Nat.reduceSub, Nat.reduceMul, Nat.reduceLT, Nat.reduceLeDiff, Nat.reduceBEq, Nat.reduceEqDiff]
    refine ⟨by omega, by omega, _, rfl, ?_⟩
    refine wr_at (A := []) (f := b1) (u := canB c b (t + i + 1) m) rfl b1_len (by omega) (by omega) ?_
    simp (config := { maxSteps := 4000000 }) only [↓sx0, ↓sx1, ↓sx2, ↓sx3, ↓sx4, ↓sx5, ↓sx6, sx0, sx1, sx2, sx3, sx4, sx5, sx6, tf64, ev3_hold, sxo, sxc, sxp, sxq, sxr, sxs, sxl, sxm, Int.reduceBEq, Int.reduceBNe, Int.reduceLT, Int.reduceLE, Int.reduceEq, Int.reduceGT, Int.reduceGE, Int.reduceToNat, ↓reduceIte, List.reduceReplicate, Nat.reduceAdd, Nat.reduceSub, Nat.reduceMul, Nat.reduceLT, Nat.reduceLeDiff, Nat.reduceBEq, Nat.reduceEqDiff, e14]
    exact ⟨(j + 1, Z2.set m (canB c b (t + i + 1) m)), _, rfl, HImp.refl _ _, ⟨by simp only []; omega, hZ2.set hmlt hstm.symm hoth, rfl⟩, by simp only []; omega⟩
end Go.Proofs.YtcnlbnccbnapbaaDoor

namespace Go.Proofs.YtcnlbnccbnapbaaDoor
open Go.RowKit Go.SX
set_option maxRecDepth 10000
set_option maxHeartbeats 8000000
set_option linter.unusedSimpArgs false
set_option linter.unusedVariables false
abbrev Frm := Int × Int × Int
def frc (p : Frm) : List Value := [I p.1, I p.2.1, I p.2.2]
theorem frc_len (p : Frm) : (frc p).length = 3 := rfl
theorem frc_one (p : Frm) : ∀ y ∈ frc p, y.oneCell' = true := by simp [frc, Value.oneCell']
theorem tEF : elT Tryd.prog 163 = some (162, 3, [.int .i64 0, .int .i64 0, .int .i64 0], 24) := by kernel_rfl
theorem repeatF_fn (w : World) (v : Value) (x : Frm) (n : Nat) (hv : Sl w v 3 (cat frc [x])) (hn : n < 200) (h1 : 1 ≤ n) :
    SX.Fn Tryd.prog 107 [v, I n] w (fun _ => False) fun r N => ∃ b, r = .slice (some ⟨b, 0, none⟩) n n ∧ HO.row (.slice (some ⟨b, 0, none⟩) n n) 162 3 (cat frc (List.replicate n x)) ∈ N := by
  obtain ⟨a, n1, c1, rfl⟩ := hv.shape
  have hn1 := hv.le frc_len (by omega)
  simp only [List.length_cons, List.length_nil] at hn1
  subst hn1
  have e1 : ((n : Int) < 0) = False := eq_false (by omega)
  have e2 : IntKind.u64.wrap (n : Int) = n := by
    rw [IntKind.wrap_u64]
    omega
  have e3 : IntKind.u64.wrap ((0 + 1 : Nat) : Int) = 1 := by decide
  have e4 : ((n : Int) > 9223372036854775807) = False := eq_false (by omega)
  have e5 : wr (n : Int) = n := wrap_id (by omega)
  have z0 : (0, 0, 0) = (((0 : Int), (0 : Int), (0 : Int)) : Frm) := rfl
  refine walk [] [] (det0_ok _ _) Tryd.func107 rfl Tryd.ntmps107 res107 (by kernel_rfl) no_facts ?_
  simp (config := { maxSteps := 4000000 }) only [↓sx0, ↓sx1, ↓sx2, ↓sx3, ↓sx4, ↓sx5, ↓sx6, sx0, sx1, sx2, sx3, sx4, sx5, sx6, tf107, ev3_hold, sxo, sxc, sxp, sxq, sxr, sxs, sxl, sxm, Int.reduceBEq, Int.reduceBNe, Int.reduceLT, Int.reduceLE, Int.reduceEq, Int.reduceGT, Int.reduceGE, Int.reduceToNat, ↓reduceIte, List.reduceReplicate, Nat.reduceAdd, Nat.reduceSub, Nat.reduceMul, Nat.reduceLT, Nat.reduceLeDiff, Nat.reduceBEq, Nat.reduceEqDiff, e1, e2, e3, det0]
  refine CallOb.pure (fun w' hp => mul_fn w' n hn) ?_
  rintro r N rfl
  simp (config := { maxSteps := 4000000 }) only [↓sx0, ↓sx1, ↓sx2, ↓sx3, ↓sx4, ↓sx5, ↓sx6, sx0, sx1, sx2, sx3, sx4, sx5, sx6, tf107, ev3_hold, sxo, sxc, sxp, sxq, sxr, sxs, sxl, sxm, Int.reduceBEq, Int.reduceBNe, Int.reduceLT, Int.reduceLE, Int.reduceEq, Int.reduceGT, Int.reduceGE, Int.reduceToNat, ↓reduceIte, List.reduceReplicate, Nat.reduceAdd, Nat.reduceSub, Nat.reduceMul, Nat.reduceLT, Nat.reduceLeDiff, Nat.reduceBEq, Nat.reduceEqDiff, e4, e5]
  refine ⟨by omega, by omega, by omega, fun b => ?_⟩
  have hz : zerosL (n : Int).toNat [Value.int IntKind.i64 0, Value.int IntKind.i64 0, Value.int IntKind.i64 0] = cat frc (List.replicate n (0, 0, 0)) := zeros_cat frc (0, 0, 0) _
  rw [hz, Int.toNat_natCast]
  have hmin : Nat.min 1 n = 1 := Nat.min_eq_left h1
  have hrep : ∀ m k : Nat, m + k ≤ n → (cat frc (List.replicate m x ++ List.replicate (n - m) (0, 0, 0))).take (m * 3) ++ cat frc (List.replicate k x) ++ (cat frc (List.replicate m x ++ List.replicate (n - m) (0, 0, 0))).drop (m * 3 + (cat frc (List.replicate k x)).length) = cat frc (List.replicate (m + k) x ++ List.replicate (n - (m + k)) (0, 0, 0)) := by
    intro m k hmk
    have h1 := cat_take frc_len (List.replicate m x ++ List.replicate (n - m) ((0, 0, 0) : Frm)) m
    have h2 := cat_drop frc_len (List.replicate m x ++ List.replicate (n - m) ((0, 0, 0) : Frm)) (m + k)
    rw [Nat.add_mul] at h2
    rw [cat_len frc_len, List.length_replicate, h1, h2, ← cat_append, ← cat_append]
    congr 1
    rw [List.take_append_of_le_length (by simp), List.take_of_length_le (by simp), List.drop_append, List.drop_of_length_le (by simp), List.length_replicate, List.nil_append, List.drop_replicate, List.replicate_append_replicate]
    congr 2
    omega
  refine copy_rowW (T' := 163) tEF (ad := ⟨b, 0, none⟩) (o := 0) (A := []) (cat frc [x]) rfl (by rw [cat_len frc_len]; simp only [List.length_singleton]; omega) (by rw [hmin]; rfl) (by rw [cat_len frc_len]; simp) (fun w' hp => ⟨_, hv.hp (fun _ _ => id) hp, by rw [hmin]; rfl⟩) (by simp [frc, cat, sxo]) ?_
  have h0 := hrep 0 1 (by omega)
  rw [List.replicate_zero, List.nil_append, Nat.sub_zero, Nat.zero_mul] at h0
  rw [show cat frc [x] = cat frc (List.replicate 1 x) from rfl, h0, hmin]
  simp (config := { maxSteps := 4000000 }) only [↓sx0, ↓sx1, ↓sx2, ↓sx3, ↓sx4, ↓sx5, ↓sx6, sx0, sx1, sx2, sx3, sx4, sx5, sx6, tf107, ev3_hold, sxo, sxc, sxp, sxq, sxr, sxs, sxl, sxm, Int.reduceBEq, Int.reduceBNe, Int.reduceLT, Int.reduceLE, Int.reduceEq, Int.reduceGT, Int.reduceGE, Int.reduceToNat, ↓reduceIte, List.reduceReplicate, Nat.reduceAdd, Nat.reduceSub, Nat.reduceMul, Nat.reduceLT, Nat.reduceLeDiff, Nat.reduceBEq, Nat.reduceEqDiff]
  refine loop_const [(8, 8), (34, 46)] (fun m : Nat => [(8, I m)]) (fun m H1 => 1 ≤ m ∧ m ≤ n ∧ H1 = [HO.row (.slice (some ⟨b, 0, none⟩) n n) 162 3 (cat frc (List.replicate m x ++ List.replicate (n - m) (0, 0, 0)))] ++ N) (fun m => n - m) 1 ?_ ⟨by omega, by omega, rfl⟩ ?_
  · simp (config := { maxSteps := 4000000 }) only [↓sx0, ↓sx1, ↓sx2, ↓sx3, ↓sx4, ↓sx5, ↓sx6, sx0, sx1, sx2, sx3, sx4, sx5, sx6, tf107, ev3_hold, sxo, sxc, sxp, sxq, sxr, sxs, sxl, sxm, Int.reduceBEq, Int.reduceBNe, Int.reduceLT, Int.reduceLE, Int.reduceEq, Int.reduceGT, Int.reduceGE, Int.reduceToNat, ↓reduceIte, List.reduceReplicate, Nat.reduceAdd, Nat.reduceSub, Nat.reduceMul, Nat.reduceLT, Nat.reduceLeDiff, Nat.reduceBEq, Nat.reduceEqDiff]
    try simp
  · rintro m H1 g ⟨hm1, hmn, rfl⟩
    by_cases hme : m = n
    · subst hme
      have e7 : ((m : Int) < (m : Int)) = False := eq_false (by omega)
      simp (config := { maxSteps := 4000000 }) only [↓sx0, ↓sx1, ↓sx2, ↓sx3, ↓sx4, ↓sx5, ↓sx6, sx0, sx1, sx2, sx3, sx4, sx5, sx6, tf107, ev3_hold, sxo, sxc, sxp, sxq, sxr, sxs, sxl, sxm, Int.reduceBEq, Int.reduceBNe, Int.reduceLT, Int.reduceLE, Int.reduceEq, Int.reduceGT, Int.reduceGE, Int.reduceToNat, ↓reduceIte, List.reduceReplicate, Nat.reduceAdd, Nat.reduceSub, Nat.reduceMul, Nat.reduceLT, Nat.reduceLeDiff, Nat.reduceBEq, Nat.reduceEqDiff, e7]
      refine ⟨b, rfl, ?_⟩
      simp
    · have e7 : ((m : Int) < (n : Int)) = True := eq_true (by omega)
      simp (config := { maxSteps := 4000000 }) only [↓sx0, ↓sx1, ↓sx2, ↓sx3, ↓sx4, ↓sx5, ↓sx6, sx0, sx1, sx2, sx3, sx4, sx5, sx6, tf107, ev3_hold, sxo, sxc, sxp, sxq, sxr, sxs, sxl, sxm, Int.reduceBEq, Int.reduceBNe, Int.reduceLT, Int.reduceLE, Int.reduceEq, Int.reduceGT, Int.reduceGE, Int.reduceToNat, ↓reduceIte, List.reduceReplicate, Nat.reduceAdd, Nat.reduceSub, Nat.reduceMul, Nat.reduceLT, Nat.reduceLeDiff, Nat.reduceBEq, Nat.reduceEqDiff, e7]
      refine ⟨fun h => h, by omega, by omega, by omega, by omega, ?_⟩
      rw [show (if n = m then some (⟨b, 0, none⟩ : Addr) else some ((⟨b, 0, none⟩ : Addr).add (m * 3))) = some ((⟨b, 0, none⟩ : Addr).add (m * 3)) by rw [if_neg (by omega)],
        show (if n = 0 then some (⟨b, 0, none⟩ : Addr) else some ((⟨b, 0, none⟩ : Addr).add 0)) = some ((⟨b, 0, none⟩ : Addr).add 0) from if_neg (by omega)]
      have hmin2 : Nat.min (m - 0) (n - m) = min m (n - m) := rfl
      generalize hke : min m (n - m) = k at hmin2
      have hkb : 1 ≤ k ∧ m + k ≤ n ∧ k ≤ m := by omega
      refine copy_rowW (T' := 163) tEF (A := []) (cat frc (List.replicate k x)) rfl (by rw [cat_len frc_len, List.length_replicate]; omega) (by rw [hmin2, cat_len frc_len, List.length_replicate]) (by rw [cat_len frc_len, List.length_replicate]; omega) (fun w' hp => ⟨_, (row_hp (E := 162) List.mem_cons_self hp).pre (m := m) (by omega), ?_⟩) (by intro v hv; rw [cat] at hv; simp only [List.mem_flatMap] at hv; obtain ⟨y, _, hy⟩ := hv; exact frc_one _ _ hy) ?_
      · rw [hmin2, cat_take frc_len]
        have := cat_take frc_len ((List.replicate m x ++ List.replicate (n - m) ((0, 0, 0) : Frm)).take m) k
        rw [this, List.take_take, List.take_append_of_le_length (by simp; omega), List.take_replicate]
        congr 2
        omega
      rw [hrep m k hkb.2.1, hmin2]
      have e8 : wr ((m : Int) + ((k : Nat) : Int)) = ((m + k : Nat) : Int) := (wrap_id (by omega)).trans (by omega)
      simp (config := { maxSteps := 4000000 }) only [↓sx0, ↓sx1, ↓sx2, ↓sx3, ↓sx4, ↓sx5, ↓sx6, sx0, sx1, sx2, sx3, sx4, sx5, sx6, tf107, ev3_hold, sxo, sxc, sxp, sxq, sxr, sxs, sxl, sxm, Int.reduceBEq, Int.reduceBNe, Int.reduceLT, Int.reduceLE, Int.reduceEq, Int.reduceGT, Int.reduceGE, Int.reduceToNat, ↓reduceIte, List.reduceReplicate, Nat.reduceAdd, Nat.reduceSub, Nat.reduceMul, Nat.reduceLT, Nat.reduceLeDiff, Nat.reduceBEq, Nat.reduceEqDiff, e8]
      exact ⟨m + k, _, rfl, HImp.refl _ _, ⟨by omega, by omega, rfl⟩, by omega⟩
def stN (cell stay : Int) (at_ before : Int) : Int := if before > stay then before else if at_ = cell then before + 1 else 0
theorem stays_fn (w : World) (cell stay at_ before : Int) (hb : 0 ≤ before ∧ before ≤ 1000) : SX.Fn Tryd.prog 108 [.agg #[I cell, I stay], I at_, I before] w (fun _ => False) fun r N => r = I (stN cell stay at_ before) := by
  have e1 : wr (before + 1) = before + 1 := wrap_id (by omega)
  unfold stN
  refine walk [] [] (det0_ok _ _) Tryd.func108 rfl Tryd.ntmps108 res108 (by kernel_rfl) no_facts ?_
  by_cases h1 : before > stay
  · have p1 : (before > stay) = True := eq_true h1
    rw [if_pos h1]
    simp (config := { maxSteps := 4000000 }) only [↓sx0, ↓sx1, ↓sx2, ↓sx3, ↓sx4, ↓sx5, ↓sx6, sx0, sx1, sx2, sx3, sx4, sx5, sx6, tf108, ev3_hold, sxo, sxc, sxp, sxq, sxr, sxs, sxl, sxm, Int.reduceBEq, Int.reduceBNe, Int.reduceLT, Int.reduceLE, Int.reduceEq, Int.reduceGT, Int.reduceGE, Int.reduceToNat, ↓reduceIte, List.reduceReplicate, Nat.reduceAdd, Nat.reduceSub, Nat.reduceMul, Nat.reduceLT, Nat.reduceLeDiff, Nat.reduceBEq, Nat.reduceEqDiff, p1]
  · have p1 : (before > stay) = False := eq_false h1
    rw [if_neg h1]
    by_cases h2 : at_ = cell
    · have p2 : (at_ = cell) = True := eq_true h2
      rw [if_pos h2]
      simp (config := { maxSteps := 4000000 }) only [↓sx0, ↓sx1, ↓sx2, ↓sx3, ↓sx4, ↓sx5, ↓sx6, sx0, sx1, sx2, sx3, sx4, sx5, sx6, tf108, ev3_hold, sxo, sxc, sxp, sxq, sxr, sxs, sxl, sxm, Int.reduceBEq, Int.reduceBNe, Int.reduceLT, Int.reduceLE, Int.reduceEq, Int.reduceGT, Int.reduceGE, Int.reduceToNat, ↓reduceIte, List.reduceReplicate, Nat.reduceAdd, Nat.reduceSub, Nat.reduceMul, Nat.reduceLT, Nat.reduceLeDiff, Nat.reduceBEq, Nat.reduceEqDiff, p1, p2, e1]
    · have p2 : (at_ = cell) = False := eq_false h2
      rw [if_neg h2]
      simp (config := { maxSteps := 4000000 }) only [↓sx0, ↓sx1, ↓sx2, ↓sx3, ↓sx4, ↓sx5, ↓sx6, sx0, sx1, sx2, sx3, sx4, sx5, sx6, tf108, ev3_hold, sxo, sxc, sxp, sxq, sxr, sxs, sxl, sxm, Int.reduceBEq, Int.reduceBNe, Int.reduceLT, Int.reduceLE, Int.reduceEq, Int.reduceGT, Int.reduceGE, Int.reduceToNat, ↓reduceIte, List.reduceReplicate, Nat.reduceAdd, Nat.reduceSub, Nat.reduceMul, Nat.reduceLT, Nat.reduceLeDiff, Nat.reduceBEq, Nat.reduceEqDiff, p1, p2]
theorem staying_fn (w : World) (cell stay at_ before : Int) (hb : 0 ≤ before ∧ before ≤ stay + 1) (hs : stay ≤ 1000) : SX.Fn Tryd.prog 52 [.agg #[I cell, I stay], I before, I at_] w (fun _ => False) fun r N => r = I (stN cell stay at_ before) := by
  have e1 : wr (before + 1) = before + 1 := wrap_id (by omega)
  have e2 : wr (stay + 1) = stay + 1 := wrap_id (by omega)
  unfold stN
  refine walk [] [] (det0_ok _ _) Tryd.func52 rfl Tryd.ntmps52 res52 (by kernel_rfl) no_facts ?_
  by_cases h1 : before > stay
  · have p1 : (before = stay + 1) = True := eq_true (by omega)
    rw [if_pos h1]
    simp (config := { maxSteps := 4000000 }) only [↓sx0, ↓sx1, ↓sx2, ↓sx3, ↓sx4, ↓sx5, ↓sx6, sx0, sx1, sx2, sx3, sx4, sx5, sx6, tf52, ev3_hold, sxo, sxc, sxp, sxq, sxr, sxs, sxl, sxm, Int.reduceBEq, Int.reduceBNe, Int.reduceLT, Int.reduceLE, Int.reduceEq, Int.reduceGT, Int.reduceGE, Int.reduceToNat, ↓reduceIte, List.reduceReplicate, Nat.reduceAdd, Nat.reduceSub, Nat.reduceMul, Nat.reduceLT, Nat.reduceLeDiff, Nat.reduceBEq, Nat.reduceEqDiff, e2, p1]
  · have p1 : (before = stay + 1) = False := eq_false (by omega)
    rw [if_neg h1]
    by_cases h2 : at_ = cell
    · have p2 : (at_ = cell) = True := eq_true h2
      rw [if_pos h2]
      simp (config := { maxSteps := 4000000 }) only [↓sx0, ↓sx1, ↓sx2, ↓sx3, ↓sx4, ↓sx5, ↓sx6, sx0, sx1, sx2, sx3, sx4, sx5, sx6, tf52, ev3_hold, sxo, sxc, sxp, sxq, sxr, sxs, sxl, sxm, Int.reduceBEq, Int.reduceBNe, Int.reduceLT, Int.reduceLE, Int.reduceEq, Int.reduceGT, Int.reduceGE, Int.reduceToNat, ↓reduceIte, List.reduceReplicate, Nat.reduceAdd, Nat.reduceSub, Nat.reduceMul, Nat.reduceLT, Nat.reduceLeDiff, Nat.reduceBEq, Nat.reduceEqDiff, e2, p1, p2, e1]
    · have p2 : (at_ = cell) = False := eq_false h2
      rw [if_neg h2]
      simp (config := { maxSteps := 4000000 }) only [↓sx0, ↓sx1, ↓sx2, ↓sx3, ↓sx4, ↓sx5, ↓sx6, sx0, sx1, sx2, sx3, sx4, sx5, sx6, tf52, ev3_hold, sxo, sxc, sxp, sxq, sxr, sxs, sxl, sxm, Int.reduceBEq, Int.reduceBNe, Int.reduceLT, Int.reduceLE, Int.reduceEq, Int.reduceGT, Int.reduceGE, Int.reduceToNat, ↓reduceIte, List.reduceReplicate, Nat.reduceAdd, Nat.reduceSub, Nat.reduceMul, Nat.reduceLT, Nat.reduceLeDiff, Nat.reduceBEq, Nat.reduceEqDiff, e2, p1, p2]
end Go.Proofs.YtcnlbnccbnapbaaDoor

