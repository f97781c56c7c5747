/- A part of a proof: the symbolic walk and what it shows of single functions. -/
import Derived.Test.YtaloedccoadedaaDoorF9
set_option linter.all false
namespace Go.Proofs.YtaloedccoadedaaDoor
open Go.RowKit Go.SX
set_option maxRecDepth 20000
set_option maxHeartbeats 0
set_option linter.unusedSimpArgs false
set_option linter.unusedVariables false
def Dis.prc (d : Dis) (count must : Nat → Bool) : Nat → Int := priceOf count must fun i => (d.rep i).weight
theorem Dis.wt_bd {d : Dis} (hE : d.E = 0) (i : Nat) : 0 ≤ (d.rep i).weight ∧ (d.rep i).weight ≤ 100 := by
  obtain ⟨_, _, _, _, hr⟩ := Dis.E_zero hE
  by_cases hi : i < d.rs.length
  · have := wgt_bd ((repB_iff _ _).1 (hr _ (Dis.rep_mem hi).1)).2.2
    exact ⟨this.1, this.2.1⟩
  · have h : d.rep i = rep0 := by
      unfold Dis.rep
      rw [List.getD_eq_getElem?_getD, List.getElem?_eq_none (by omega)]
      rfl
    rw [h]
    decide
theorem Dis.prc_ok {d : Dis} (hE : d.E = 0) (count must : Nat → Bool) : priceOk 100 (d.prc count must) := priceOf_ok (by decide) fun i _ => Dis.wt_bd hE i
theorem own_no (r : Rps) {count must : Nat → Bool} {w : Nat → Int} {t x i : Nat} (h : r.own count must w t x i = none) : r.own count must w t x (i + 1) = none := by
  unfold Rps.own
  rw [h]
theorem own_so (r : Rps) {count must : Nat → Bool} {w : Nat → Int} {t x i : Nat} {n : Int} (h : r.own count must w t x i = some n) : r.own count must w t x (i + 1) = if count i && r.off t x i then (if must i then none else some (n + w i)) else some n := by
  rw [Rps.own, h]
theorem rown_fn (w : World) (hw : Ways w) (v vm vc vu : Value) (d : Dis) (hd : DsOk w v d) (hE : d.E = 0) (hm : LLOk i1 1 w vm (apL d.c)) (count must : Nat → Bool) (hcn : Sl w vc 1 (cat b1 (rowF d.rs.length count))) (hmu : Sl w vu 1 (cat b1 (rowF d.rs.length must))) (k t : Nat) (hk : k < d.c.depth.length) (ht : t < d.c.tide.length) :
    SX.Fn Tryd.prog 94 [v, vm, vc, vu, I k, I t] w (fun _ => False) fun q N => q = I ((d.crs (d.prc count must)).cost t k) := by
  have hd0 := hd
  obtain ⟨hok, hdr, hpc, hm12, hrep⟩ := Dis.E_zero hE
  have hmay := fun (H : List HO) w' (hp : Hp ⟨w, fun _ => False⟩ H w') => may_fn w' v d (hd0.hp hp) hok k t hk ht
  have hcost : (d.crs (d.prc count must)).cost t k = if d.may t k then d.rps.sum (d.prc count must) t k d.rs.length else NV := rfl
  have hsum := fun i (hi : i ≤ d.rs.length) => d.rps.own_sum (count := count) (must := must) (W := 100) (by decide) (fun i _ => Dis.wt_bd hE i) t k i (by unfold NV; omega)
  have hows := fun i => own_no d.rps (count := count) (must := must) (w := fun i => (d.rep i).weight) (t := t) (x := k) (i := i)
  have hows2 := fun i n => own_so d.rps (count := count) (must := must) (w := fun i => (d.rep i).weight) (t := t) (x := k) (i := i) (n := n)
  have how0 : d.rps.own count must (fun i => (d.rep i).weight) t k 0 = some 0 := rfl
  have hoff : ∀ i, d.rps.off t k i = (decide ((d.rep i).tick.toNat = t) && !saysB d.c (d.rep i) k) := fun _ => rfl
  have hprc : priceOf count must (fun i => (d.rep i).weight) = d.prc count must := rfl
  simp only [hprc] at hsum
  obtain ⟨ow, how⟩ : ∃ ow, d.rps.own count must (fun i => (d.rep i).weight) t k = ow := ⟨_, rfl⟩
  obtain ⟨su, hsu⟩ : ∃ su, d.rps.sum (d.prc count must) t k = su := ⟨_, rfl⟩
  simp only [how, hsu] at hsum hows hows2 how0 hcost
  -- once none, always none
  have hnone : ∀ j i, ow i = none → ow (i + j) = none := fun j => by
    induction j with
    | zero => exact fun i h => h
    | succ j ih =>
      intro i h
      have := ih i h
      exact hows _ this
  have hfin : ∀ i, i < d.rs.length → ow (i + 1) = none → su d.rs.length = NV := fun i hi h => by
    have h1 := hnone (d.rs.length - (i + 1)) (i + 1) h
    rw [show i + 1 + (d.rs.length - (i + 1)) = d.rs.length by omega] at h1
    rw [(hsum d.rs.length (Nat.le_refl _)).1, h1]
    rfl
  obtain ⟨sD, sT, sS, sR, rfl, hc, hsR⟩ := hd
  have hho := fun (r : Rep) (hr : repB d.c r = true) (H : List HO) (w' : World) (hp : Hp ⟨w, fun _ => False⟩ H w') => holds_fn w' sD sT sS vm d.c hok (hm.hp hp) r hr k hk
  have hD := detR_ok (X := fun _ => False) hw hc (fun _ _ => id)
  obtain ⟨_, _, _, hh, hsD, hsT, hsS⟩ := hc
  cases hh
  obtain ⟨aR, nR, cR, rfl⟩ := hsR.shape
  obtain ⟨aC, nC, cC, rfl⟩ := hcn.shape
  obtain ⟨aU, nU, cU, rfl⟩ := hmu.shape
  have hnR := hsR.le rpc_len (by omega)
  have hnC := hcn.le b1_len (by omega)
  have hnU := hmu.le b1_len (by omega)
  rw [rowF_len] at hnC hnU
  subst hnR hnC hnU
  have hrR := fun H => hsR.rd0 H
  have hrC := fun H => hcn.rd0 H
  have hrU := fun H => hmu.rd0 H
  have dn : (∀ xs, detR (.agg #[I d.c.wide, I d.c.high, sD, sT, sS]) d.c 71 xs = none) ∧ (∀ xs, detR (.agg #[I d.c.wide, I d.c.high, sD, sT, sS]) d.c 72 xs = none) := ⟨fun _ => rfl, fun _ => rfl⟩
  refine walkC [17] [] [] hD Tryd.func94 rfl Tryd.ntmps94 res94 (by kernel_rfl) no_facts ?_
  simp (config := { maxSteps := 4000000 }) only [↓sx0, ↓sx1, ↓sx2, ↓sx3, ↓sx4, ↓sx5, ↓sx6, sx0, sx1, sx2, sx3, sx4, sx5, sx6, tf94, ev3_hold, sxo, sxc, sxp, sxq, sxr, sxs, sxl, sxm, Int.reduceBEq, Int.reduceBNe, Int.reduceLT, Int.reduceLE, Int.reduceEq, Int.reduceGT, Int.reduceGE, Int.reduceToNat, ↓reduceIte, List.reduceReplicate, Nat.reduceAdd, Nat.reduceSub, Nat.reduceMul, Nat.reduceLT, Nat.reduceLeDiff, Nat.reduceBEq, Nat.reduceEqDiff, dn]
  refine CallOb.pureH (fun w' hp => hmay _ w' hp) ?_
  rintro q N rfl
  cases hB : d.may t k with
  | false =>
    rw [hB] at hcost
    refine ⟨?_⟩
    simp (config := { maxSteps := 4000000 }) only [↓sx0, ↓sx1, ↓sx2, ↓sx3, ↓sx4, ↓sx5, ↓sx6, sx0, sx1, sx2, sx3, sx4, sx5, sx6, tf94, ev3_hold, sxo, sxc, sxp, sxq, sxr, sxs, sxl, sxm, Int.reduceBEq, Int.reduceBNe, Int.reduceLT, Int.reduceLE, Int.reduceEq, Int.reduceGT, Int.reduceGE, Int.reduceToNat, ↓reduceIte, List.reduceReplicate, Nat.reduceAdd, Nat.reduceSub, Nat.reduceMul, Nat.reduceLT, Nat.reduceLeDiff, Nat.reduceBEq, Nat.reduceEqDiff]
    rw [hcost]
    rfl
  | true =>
  rw [hB] at hcost
  simp only [if_true] at hcost
  refine ⟨?_⟩
  simp (config := { maxSteps := 4000000 }) only [↓sx0, ↓sx1, ↓sx2, ↓sx3, ↓sx4, ↓sx5, ↓sx6, sx0, sx1, sx2, sx3, sx4, sx5, sx6, tf94, ev3_hold, sxo, sxc, sxp, sxq, sxr, sxs, sxl, sxm, Int.reduceBEq, Int.reduceBNe, Int.reduceLT, Int.reduceLE, Int.reduceEq, Int.reduceGT, Int.reduceGE, Int.reduceToNat, ↓reduceIte, List.reduceReplicate, Nat.reduceAdd, Nat.reduceSub, Nat.reduceMul, Nat.reduceLT, Nat.reduceLeDiff, Nat.reduceBEq, Nat.reduceEqDiff]
  refine loop_constH N (HImp.refl _ _) [(12, 15), (21, 59)] (fun q : Nat × Int => [(13, I q.2), (14, I q.1)]) (fun q H1 => q.1 ≤ d.rs.length ∧ ow q.1 = some q.2 ∧ H1 = N) (fun q => d.rs.length - q.1) (0, 0) ?_ ⟨Nat.zero_le _, how0, rfl⟩ ?_
  · simp (config := { maxSteps := 4000000 }) only [↓sx0, ↓sx1, ↓sx2, ↓sx3, ↓sx4, ↓sx5, ↓sx6, sx0, sx1, sx2, sx3, sx4, sx5, sx6, tf94, ev3_hold, sxo, sxc, sxp, sxq, sxr, sxs, sxl, sxm, Int.reduceBEq, Int.reduceBNe, Int.reduceLT, Int.reduceLE, Int.reduceEq, Int.reduceGT, Int.reduceGE, Int.reduceToNat, ↓reduceIte, List.reduceReplicate, Nat.reduceAdd, Nat.reduceSub, Nat.reduceMul, Nat.reduceLT, Nat.reduceLeDiff, Nat.reduceBEq, Nat.reduceEqDiff]
    try simp
  rintro ⟨i, n⟩ H1 g1 hinv
  simp only [] at hinv
  obtain ⟨hi, hn, rfl⟩ := hinv
  have hs := hsum i hi
  rw [hn] at hs
  have hnb := hs.2 n rfl
  by_cases hin : i = d.rs.length
  · have e7 : ((i : Int) < (d.rs.length : Int)) = False := eq_false (by omega)
    refine ⟨?_⟩
    simp (config := { maxSteps := 4000000 }) only [↓sx0, ↓sx1, ↓sx2, ↓sx3, ↓sx4, ↓sx5, ↓sx6, sx0, sx1, sx2, sx3, sx4, sx5, sx6, tf94, ev3_hold, sxo, sxc, sxp, sxq, sxr, sxs, sxl, sxm, Int.reduceBEq, Int.reduceBNe, Int.reduceLT, Int.reduceLE, Int.reduceEq, Int.reduceGT, Int.reduceGE, Int.reduceToNat, ↓reduceIte, List.reduceReplicate, Nat.reduceAdd, Nat.reduceSub, Nat.reduceMul, Nat.reduceLT, Nat.reduceLeDiff, Nat.reduceBEq, Nat.reduceEqDiff, e7]
    rw [hcost, ← hin, hs.1]
    rfl
  have e7 : ((i : Int) < (d.rs.length : Int)) = True := eq_true (by omega)
  have e8 : wr (i + 1) = ((i + 1 : Nat) : Int) := (wrap_id (by omega)).trans (by omega)
  have hilt : i < d.rs.length := by omega
  have hfi := hfin i hilt
  have hwi := Dis.wt_bd hE i
  have hCi : (rowF d.rs.length count)[i]? = some (count i) := rowF_get _ hilt
  have hUi : (rowF d.rs.length must)[i]? = some (must i) := rowF_get _ hilt
  have hr := (Dis.rep_mem (d := d) (i := i) hilt).2
  have hrk := hrep _ (List.mem_of_getElem? hr)
  obtain ⟨hrt, hr0⟩ := Dis.rep_ok hE (i := i) hilt
  have hoi := hoff i
  have hosi := hows2 i n hn
  obtain ⟨⟨x1, x2, x3, x4, x5, x6, x7, s, x9⟩, hre⟩ : ∃ r, d.rep i = r := ⟨_, rfl⟩
  rw [hre] at hr hrk hrt hr0 hwi hoi hosi
  simp only [] at hrt hr0 hwi hoi hosi
  obtain ⟨t0, rfl⟩ : ∃ t0 : Nat, x1 = t0 := ⟨x1.toNat, by omega⟩
  simp only [Int.toNat_natCast] at hrt hoi
  have hho := hho _ hrk
  obtain ⟨off, hof⟩ : ∃ b, d.rps.off t k i = b := ⟨_, rfl⟩
  obtain ⟨sy, hsy⟩ : ∃ b, saysB d.c ⟨(t0 : Int), x2, x3, x4, x5, x6, x7, s, x9⟩ k = b := ⟨_, rfl⟩
  rw [hof] at hoi hosi
  rw [hsy] at hoi
  simp only [hsy, rpv] at hho
  obtain ⟨ci, hci⟩ : ∃ b, count i = b := ⟨_, rfl⟩
  obtain ⟨ui, hui⟩ : ∃ b, must i = b := ⟨_, rfl⟩
  rw [hci] at hCi hosi
  rw [hui] at hUi hosi
  refine ⟨?_⟩
  simp (config := { maxSteps := 4000000 }) only [↓sx0, ↓sx1, ↓sx2, ↓sx3, ↓sx4, ↓sx5, ↓sx6, sx0, sx1, sx2, sx3, sx4, sx5, sx6, tf94, ev3_hold, sxo, sxc, sxp, sxq, sxr, sxs, sxl, sxm, Int.reduceBEq, Int.reduceBNe, Int.reduceLT, Int.reduceLE, Int.reduceEq, Int.reduceGT, Int.reduceGE, Int.reduceToNat, ↓reduceIte, List.reduceReplicate, Nat.reduceAdd, Nat.reduceSub, Nat.reduceMul, Nat.reduceLT, Nat.reduceLeDiff, Nat.reduceBEq, Nat.reduceEqDiff, e7]
  refine amid (at_n (hrR _) rpc_len (by omega) hr fun ad => ?_)
  unfold rpc
  simp (config := { maxSteps := 4000000 }) only [↓sx0, ↓sx1, ↓sx2, ↓sx3, ↓sx4, ↓sx5, ↓sx6, sx0, sx1, sx2, sx3, sx4, sx5, sx6, tf94, ev3_hold, sxo, sxc, sxp, sxq, sxr, sxs, sxl, sxm, Int.reduceBEq, Int.reduceBNe, Int.reduceLT, Int.reduceLE, Int.reduceEq, Int.reduceGT, Int.reduceGE, Int.reduceToNat, ↓reduceIte, List.reduceReplicate, Nat.reduceAdd, Nat.reduceSub, Nat.reduceMul, Nat.reduceLT, Nat.reduceLeDiff, Nat.reduceBEq, Nat.reduceEqDiff]
  refine cut_constH [(33, 51)] (fun _ : Unit => [(51, .bool (!(ci && off)))]) (fun _ H2 => H2 = H1) ?_ ?_
  · refine ⟨?_⟩
    simp (config := { maxSteps := 4000000 }) only [↓sx0, ↓sx1, ↓sx2, ↓sx3, ↓sx4, ↓sx5, ↓sx6, sx0, sx1, sx2, sx3, sx4, sx5, sx6, tf94, ev3_hold, sxo, sxc, sxp, sxq, sxr, sxs, sxl, sxm, Int.reduceBEq, Int.reduceBNe, Int.reduceLT, Int.reduceLE, Int.reduceEq, Int.reduceGT, Int.reduceGE, Int.reduceToNat, ↓reduceIte, List.reduceReplicate, Nat.reduceAdd, Nat.reduceSub, Nat.reduceMul, Nat.reduceLT, Nat.reduceLeDiff, Nat.reduceBEq, Nat.reduceEqDiff]
    refine at_1 (hrC _) b1_len hCi rfl fun ad => ?_
    cases ci with
    | false =>
      simp (config := { maxSteps := 4000000 }) only [↓sx0, ↓sx1, ↓sx2, ↓sx3, ↓sx4, ↓sx5, ↓sx6, sx0, sx1, sx2, sx3, sx4, sx5, sx6, tf94, ev3_hold, sxo, sxc, sxp, sxq, sxr, sxs, sxl, sxm, Int.reduceBEq, Int.reduceBNe, Int.reduceLT, Int.reduceLE, Int.reduceEq, Int.reduceGT, Int.reduceGE, Int.reduceToNat, ↓reduceIte, List.reduceReplicate, Nat.reduceAdd, Nat.reduceSub, Nat.reduceMul, Nat.reduceLT, Nat.reduceLeDiff, Nat.reduceBEq, Nat.reduceEqDiff]
      exact ⟨(), _, HImp.refl _ _, rfl⟩
    | true =>
    by_cases htt : t0 = t
    · have e9 : ((t0 : Int) = (t : Int)) = True := eq_true (by omega)
      rw [decide_eq_true htt] at hoi
      simp (config := { maxSteps := 4000000 }) only [↓sx0, ↓sx1, ↓sx2, ↓sx3, ↓sx4, ↓sx5, ↓sx6, sx0, sx1, sx2, sx3, sx4, sx5, sx6, tf94, ev3_hold, sxo, sxc, sxp, sxq, sxr, sxs, sxl, sxm, Int.reduceBEq, Int.reduceBNe, Int.reduceLT, Int.reduceLE, Int.reduceEq, Int.reduceGT, Int.reduceGE, Int.reduceToNat, ↓reduceIte, List.reduceReplicate, Nat.reduceAdd, Nat.reduceSub, Nat.reduceMul, Nat.reduceLT, Nat.reduceLeDiff, Nat.reduceBEq, Nat.reduceEqDiff, e9, dn]
      refine CallOb.pureH (fun w' hp => hho _ w' hp) ?_
      rintro q N2 rfl
      refine ⟨?_⟩
      rw [hoi]
      simp (config := { maxSteps := 4000000 }) only [↓sx0, ↓sx1, ↓sx2, ↓sx3, ↓sx4, ↓sx5, ↓sx6, sx0, sx1, sx2, sx3, sx4, sx5, sx6, tf94, ev3_hold, sxo, sxc, sxp, sxq, sxr, sxs, sxl, sxm, Int.reduceBEq, Int.reduceBNe, Int.reduceLT, Int.reduceLE, Int.reduceEq, Int.reduceGT, Int.reduceGE, Int.reduceToNat, ↓reduceIte, List.reduceReplicate, Nat.reduceAdd, Nat.reduceSub, Nat.reduceMul, Nat.reduceLT, Nat.reduceLeDiff, Nat.reduceBEq, Nat.reduceEqDiff]
      exact ⟨(), _, by rw [Bool.not_not], HImp.app _ _ _, rfl⟩
    · have e9 : ((t0 : Int) = (t : Int)) = False := eq_false (by omega)
      rw [decide_eq_false htt, Bool.false_and] at hoi
      rw [hoi]
      simp (config := { maxSteps := 4000000 }) only [↓sx0, ↓sx1, ↓sx2, ↓sx3, ↓sx4, ↓sx5, ↓sx6, sx0, sx1, sx2, sx3, sx4, sx5, sx6, tf94, ev3_hold, sxo, sxc, sxp, sxq, sxr, sxs, sxl, sxm, Int.reduceBEq, Int.reduceBNe, Int.reduceLT, Int.reduceLE, Int.reduceEq, Int.reduceGT, Int.reduceGE, Int.reduceToNat, ↓reduceIte, List.reduceReplicate, Nat.reduceAdd, Nat.reduceSub, Nat.reduceMul, Nat.reduceLT, Nat.reduceLeDiff, Nat.reduceBEq, Nat.reduceEqDiff, e9]
      exact ⟨(), _, HImp.refl _ _, rfl⟩
  rintro _ H2 g2 rfl
  cases hco : (ci && off) with
  | false =>
    rw [hco] at hosi
    refine ⟨?_⟩
    simp (config := { maxSteps := 4000000 }) only [↓sx0, ↓sx1, ↓sx2, ↓sx3, ↓sx4, ↓sx5, ↓sx6, sx0, sx1, sx2, sx3, sx4, sx5, sx6, tf94, ev3_hold, sxo, sxc, sxp, sxq, sxr, sxs, sxl, sxm, Int.reduceBEq, Int.reduceBNe, Int.reduceLT, Int.reduceLE, Int.reduceEq, Int.reduceGT, Int.reduceGE, Int.reduceToNat, ↓reduceIte, List.reduceReplicate, Nat.reduceAdd, Nat.reduceSub, Nat.reduceMul, Nat.reduceLT, Nat.reduceLeDiff, Nat.reduceBEq, Nat.reduceEqDiff, e8]
    exact ⟨(i + 1, n), _, ⟨rfl, rfl⟩, HImp.refl _ _, ⟨by simp only []; omega, hosi, rfl⟩, by simp only []; omega⟩
  | true =>
  rw [hco] at hosi
  simp only [if_true] at hosi
  refine ⟨?_⟩
  simp (config := { maxSteps := 4000000 }) only [↓sx0, ↓sx1, ↓sx2, ↓sx3, ↓sx4, ↓sx5, ↓sx6, sx0, sx1, sx2, sx3, sx4, sx5, sx6, tf94, ev3_hold, sxo, sxc, sxp, sxq, sxr, sxs, sxl, sxm, Int.reduceBEq, Int.reduceBNe, Int.reduceLT, Int.reduceLE, Int.reduceEq, Int.reduceGT, Int.reduceGE, Int.reduceToNat, ↓reduceIte, List.reduceReplicate, Nat.reduceAdd, Nat.reduceSub, Nat.reduceMul, Nat.reduceLT, Nat.reduceLeDiff, Nat.reduceBEq, Nat.reduceEqDiff]
  refine at_1 (hrU _) b1_len hUi rfl fun ad => ?_
  cases ui with
  | true =>
    simp (config := { maxSteps := 4000000 }) only [↓sx0, ↓sx1, ↓sx2, ↓sx3, ↓sx4, ↓sx5, ↓sx6, sx0, sx1, sx2, sx3, sx4, sx5, sx6, tf94, ev3_hold, sxo, sxc, sxp, sxq, sxr, sxs, sxl, sxm, Int.reduceBEq, Int.reduceBNe, Int.reduceLT, Int.reduceLE, Int.reduceEq, Int.reduceGT, Int.reduceGE, Int.reduceToNat, ↓reduceIte, List.reduceReplicate, Nat.reduceAdd, Nat.reduceSub, Nat.reduceMul, Nat.reduceLT, Nat.reduceLeDiff, Nat.reduceBEq, Nat.reduceEqDiff]
    rw [hcost, hfi hosi]
    rfl
  | false =>
    have e10 : wr (n + x9) = n + x9 := wrap_id (by omega)
    simp (config := { maxSteps := 4000000 }) only [↓sx0, ↓sx1, ↓sx2, ↓sx3, ↓sx4, ↓sx5, ↓sx6, sx0, sx1, sx2, sx3, sx4, sx5, sx6, tf94, ev3_hold, sxo, sxc, sxp, sxq, sxr, sxs, sxl, sxm, Int.reduceBEq, Int.reduceBNe, Int.reduceLT, Int.reduceLE, Int.reduceEq, Int.reduceGT, Int.reduceGE, Int.reduceToNat, ↓reduceIte, List.reduceReplicate, Nat.reduceAdd, Nat.reduceSub, Nat.reduceMul, Nat.reduceLT, Nat.reduceLeDiff, Nat.reduceBEq, Nat.reduceEqDiff, e8, e10]
    exact ⟨(i + 1, n + x9), _, ⟨rfl, rfl⟩, HImp.refl _ _, ⟨by simp only []; omega, hosi, rfl⟩, by simp only []; omega⟩
end Go.Proofs.YtaloedccoadedaaDoor
