/- Parts of a proof: the symbolic walk and what it shows of single functions. -/
import Derived.Test.YtaloedccoadedaaDoorF9
set_option linter.all false
namespace Go.Proofs.YtaloedccoadedaaDoor
open Go.RowKit Go.SX
set_option maxRecDepth 20000
set_option maxHeartbeats 0
set_option linter.unusedSimpArgs false
set_option linter.unusedVariables false
def Dis.prc (d : Dis) (count must : Nat → Bool) : Nat → Int := priceOf count must fun i => (d.rep i).weight
theorem Dis.wt_bd {d : Dis} (hE : d.E = 0) (i : Nat) : 0 ≤ (d.rep i).weight ∧ (d.rep i).weight ≤ 100 := by
  obtain ⟨_, _, _, _, hr⟩ := Dis.E_zero hE
  by_cases hi : i < d.rs.length
  · have := wgt_bd ((repB_iff _ _).1 (hr _ (Dis.rep_mem hi).1)).2.2
    exact ⟨this.1, this.2.1⟩
  · have h : d.rep i = rep0 := by
      unfold Dis.rep
      rw [List.getD_eq_getElem?_getD, List.getElem?_eq_none (by omega)]
      rfl
    rw [h]
    decide
theorem Dis.prc_ok {d : Dis} (hE : d.E = 0) (count must : Nat → Bool) : priceOk 100 (d.prc count must) := priceOf_ok (by decide) fun i _ => Dis.wt_bd hE i
theorem own_no (r : Rps) {count must : Nat → Bool} {w : Nat → Int} {t x i : Nat} (h : r.own count must w t x i = none) : r.own count must w t x (i + 1) = none := by
  unfold Rps.own
  rw [h]
theorem own_so (r : Rps) {count must : Nat → Bool} {w : Nat → Int} {t x i : Nat} {n : Int} (h : r.own count must w t x i = some n) : r.own count must w t x (i + 1) = if count i && r.off t x i then (if must i then none else some (n + w i)) else some n := by
  rw [Rps.own, h]
theorem rown_fn (w : World) (hw : Ways w) (v vm vc vu : Value) (d : Dis) (hd : DsOk w v d) (hE : d.E = 0) (hm : LLOk i1 1 w vm (apL d.c)) (count must : Nat → Bool) (hcn : Sl w vc 1 (cat b1 (rowF d.rs.length count))) (hmu : Sl w vu 1 (cat b1 (rowF d.rs.length must))) (k t : Nat) (hk : k < d.c.depth.length) (ht : t < d.c.tide.length) :
    SX.Fn Tryd.prog 94 [v, vm, vc, vu, I k, I t] w (fun _ => False) fun q N => q = I ((d.crs (d.prc count must)).cost t k) := by
  have hd0 := hd
  obtain ⟨hok, hdr, hpc, hm12, hrep⟩ := Dis.E_zero hE
  have hmay := fun (H : List HO) w' (hp : Hp ⟨w, fun _ => False⟩ H w') => may_fn w' v d (hd0.hp hp) hok k t hk ht
  have hcost : (d.crs (d.prc count must)).cost t k = if d.may t k then d.rps.sum (d.prc count must) t k d.rs.length else NV := rfl
  have hsum := fun i (hi : i ≤ d.rs.length) => d.rps.own_sum (count := count) (must := must) (W := 100) (by decide) (fun i _ => Dis.wt_bd hE i) t k i (by unfold NV; omega)
  have hows := fun i => own_no d.rps (count := count) (must := must) (w := fun i => (d.rep i).weight) (t := t) (x := k) (i := i)
  have hows2 := fun i n => own_so d.rps (count := count) (must := must) (w := fun i => (d.rep i).weight) (t := t) (x := k) (i := i) (n := n)
  have how0 : d.rps.own count must (fun i => (d.rep i).weight) t k 0 = some 0 := rfl
  have hoff : ∀ i, d.rps.off t k i = (decide ((d.rep i).tick.toNat = t) && !saysB d.c (d.rep i) k) := fun _ => rfl
  have hprc : priceOf count must (fun i => (d.rep i).weight) = d.prc count must := rfl
  simp only [hprc] at hsum
  obtain ⟨ow, how⟩ : ∃ ow, d.rps.own count must (fun i => (d.rep i).weight) t k = ow := ⟨_, rfl⟩
  obtain ⟨su, hsu⟩ : ∃ su, d.rps.sum (d.prc count must) t k = su := ⟨_, rfl⟩
  simp only [how, hsu] at hsum hows hows2 how0 hcost
  -- once none, always none
  have hnone : ∀ j i, ow i = none → ow (i + j) = none := fun j => by
    induction j with
    | zero => exact fun i h => h
    | succ j ih =>
      intro i h
      have := ih i h
      exact hows _ this
  have hfin : ∀ i, i < d.rs.length → ow (i + 1) = none → su d.rs.length = NV := fun i hi h => by
    have h1 := hnone (d.rs.length - (i + 1)) (i + 1) h
    rw [show i + 1 + (d.rs.length - (i + 1)) = d.rs.length by omega] at h1
    rw [(hsum d.rs.length (Nat.le_refl _)).1, h1]
    rfl
  obtain ⟨sD, sT, sS, sR, rfl, hc, hsR⟩ := hd
  have hho := fun (r : Rep) (hr : repB d.c r = true) (H : List HO) (w' : World) (hp : Hp ⟨w, fun _ => False⟩ H w') => holds_fn w' sD sT sS vm d.c hok (hm.hp hp) r hr k hk
  have hD := detR_ok (X := fun _ => False) hw hc (fun _ _ => id)
  obtain ⟨_, _, _, hh, hsD, hsT, hsS⟩ := hc
  cases hh
  obtain ⟨aR, nR, cR, rfl⟩ := hsR.shape
  obtain ⟨aC, nC, cC, rfl⟩ := hcn.shape
  obtain ⟨aU, nU, cU, rfl⟩ := hmu.shape
  have hnR := hsR.le rpc_len (by omega)
  have hnC := hcn.le b1_len (by omega)
  have hnU := hmu.le b1_len (by omega)
  rw [rowF_len] at hnC hnU
  subst hnR hnC hnU
  have hrR := fun H => hsR.rd0 H
  have hrC := fun H => hcn.rd0 H
  have hrU := fun H => hmu.rd0 H
  have dn : (∀ xs, detR (.agg #[I d.c.wide, I d.c.high, sD, sT, sS]) d.c 71 xs = none) ∧ (∀ xs, detR (.agg #[I d.c.wide, I d.c.high, sD, sT, sS]) d.c 72 xs = none) := ⟨fun _ => rfl, fun _ => rfl⟩
  refine walkC [17] [] [] hD Tryd.func94 rfl Tryd.ntmps94 res94 (by kernel_rfl) no_facts ?_
  simp (config := { maxSteps := 4000000 }) only [↓sx0, ↓sx1, ↓sx2, ↓sx3, ↓sx4, ↓sx5, ↓sx6, sx0, sx1, sx2, sx3, sx4, sx5, sx6, tf94, ev3_hold, sxo, sxc, sxp, sxq, sxr, sxs, sxl, sxm, simprocAttr, dn]
  refine CallOb.pureH (fun w' hp => hmay _ w' hp) ?_
  rintro q N rfl
  cases hB : d.may t k with
  | false =>
    rw [hB] at hcost
    refine ⟨?_⟩
    simp (config := { maxSteps := 4000000 }) only [↓sx0, ↓sx1, ↓sx2, ↓sx3, ↓sx4, ↓sx5, ↓sx6, sx0, sx1, sx2, sx3, sx4, sx5, sx6, tf94, ev3_hold, sxo, sxc, sxp, sxq, sxr, sxs, sxl, sxm, simprocAttr]
    rw [hcost]
    rfl
  | true =>
  rw [hB] at hcost
  simp only [if_true] at hcost
  refine ⟨?_⟩
  simp (config := { maxSteps := 4000000 }) only [↓sx0, ↓sx1, ↓sx2, ↓sx3, ↓sx4, ↓sx5, ↓sx6, sx0, sx1, sx2, sx3, sx4, sx5, sx6, tf94, ev3_hold, sxo, sxc, sxp, sxq, sxr, sxs, sxl, sxm, simprocAttr]
  refine loop_constH N (HImp.refl _ _) [(12, 15), (21, 59)] (fun q : Nat × Int => [(13, I q.2), (14, I q.1)]) (fun q H1 => q.1 ≤ d.rs.length ∧ ow q.1 = some q.2 ∧ H1 = N) (fun q => d.rs.length - q.1) (0, 0) ?_ ⟨Nat.zero_le _, how0, rfl⟩ ?_
  · simp (config := { maxSteps := 4000000 }) only [↓sx0, ↓sx1, ↓sx2, ↓sx3, ↓sx4, ↓sx5, ↓sx6, sx0, sx1, sx2, sx3, sx4, sx5, sx6, tf94, ev3_hold, sxo, sxc, sxp, sxq, sxr, sxs, sxl, sxm, simprocAttr]
    try simp
  rintro ⟨i, n⟩ H1 g1 hinv
  simp only [] at hinv
  obtain ⟨hi, hn, rfl⟩ := hinv
  have hs := hsum i hi
  rw [hn] at hs
  have hnb := hs.2 n rfl
  by_cases hin : i = d.rs.length
  · have e7 : ((i : Int) < (d.rs.length : Int)) = False := eq_false (by omega)
    refine ⟨?_⟩
    simp (config := { maxSteps := 4000000 }) only [↓sx0, ↓sx1, ↓sx2, ↓sx3, ↓sx4, ↓sx5, ↓sx6, sx0, sx1, sx2, sx3, sx4, sx5, sx6, tf94, ev3_hold, sxo, sxc, sxp, sxq, sxr, sxs, sxl, sxm, simprocAttr, e7]
    rw [hcost, ← hin, hs.1]
    rfl
  have e7 : ((i : Int) < (d.rs.length : Int)) = True := eq_true (by omega)
  have e8 : wr (i + 1) = ((i + 1 : Nat) : Int) := (wrap_id (by omega)).trans (by omega)
  have hilt : i < d.rs.length := by omega
  have hfi := hfin i hilt
  have hwi := Dis.wt_bd hE i
  have hCi : (rowF d.rs.length count)[i]? = some (count i) := rowF_get _ hilt
  have hUi : (rowF d.rs.length must)[i]? = some (must i) := rowF_get _ hilt
  have hr := (Dis.rep_mem (d := d) (i := i) hilt).2
  have hrk := hrep _ (List.mem_of_getElem? hr)
  obtain ⟨hrt, hr0⟩ := Dis.rep_ok hE (i := i) hilt
  have hoi := hoff i
  have hosi := hows2 i n hn
  obtain ⟨⟨x1, x2, x3, x4, x5, x6, x7, s, x9⟩, hre⟩ : ∃ r, d.rep i = r := ⟨_, rfl⟩
  rw [hre] at hr hrk hrt hr0 hwi hoi hosi
  simp only [] at hrt hr0 hwi hoi hosi
  obtain ⟨t0, rfl⟩ : ∃ t0 : Nat, x1 = t0 := ⟨x1.toNat, by omega⟩
  simp only [Int.toNat_natCast] at hrt hoi
  have hho := hho _ hrk
  obtain ⟨off, hof⟩ : ∃ b, d.rps.off t k i = b := ⟨_, rfl⟩
  obtain ⟨sy, hsy⟩ : ∃ b, saysB d.c ⟨(t0 : Int), x2, x3, x4, x5, x6, x7, s, x9⟩ k = b := ⟨_, rfl⟩
  rw [hof] at hoi hosi
  rw [hsy] at hoi
  simp only [hsy, rpv] at hho
  obtain ⟨ci, hci⟩ : ∃ b, count i = b := ⟨_, rfl⟩
  obtain ⟨ui, hui⟩ : ∃ b, must i = b := ⟨_, rfl⟩
  rw [hci] at hCi hosi
  rw [hui] at hUi hosi
  refine ⟨?_⟩
  simp (config := { maxSteps := 4000000 }) only [↓sx0, ↓sx1, ↓sx2, ↓sx3, ↓sx4, ↓sx5, ↓sx6, sx0, sx1, sx2, sx3, sx4, sx5, sx6, tf94, ev3_hold, sxo, sxc, sxp, sxq, sxr, sxs, sxl, sxm, simprocAttr, e7]
  refine amid (at_n (hrR _) rpc_len (by omega) hr fun ad => ?_)
  unfold rpc
  simp (config := { maxSteps := 4000000 }) only [↓sx0, ↓sx1, ↓sx2, ↓sx3, ↓sx4, ↓sx5, ↓sx6, sx0, sx1, sx2, sx3, sx4, sx5, sx6, tf94, ev3_hold, sxo, sxc, sxp, sxq, sxr, sxs, sxl, sxm, simprocAttr]
  refine cut_constH [(33, 51)] (fun _ : Unit => [(51, .bool (!(ci && off)))]) (fun _ H2 => H2 = H1) ?_ ?_
  · refine ⟨?_⟩
    simp (config := { maxSteps := 4000000 }) only [↓sx0, ↓sx1, ↓sx2, ↓sx3, ↓sx4, ↓sx5, ↓sx6, sx0, sx1, sx2, sx3, sx4, sx5, sx6, tf94, ev3_hold, sxo, sxc, sxp, sxq, sxr, sxs, sxl, sxm, simprocAttr]
    refine at_1 (hrC _) b1_len hCi rfl fun ad => ?_
    cases ci with
    | false =>
      simp (config := { maxSteps := 4000000 }) only [↓sx0, ↓sx1, ↓sx2, ↓sx3, ↓sx4, ↓sx5, ↓sx6, sx0, sx1, sx2, sx3, sx4, sx5, sx6, tf94, ev3_hold, sxo, sxc, sxp, sxq, sxr, sxs, sxl, sxm, simprocAttr]
      exact ⟨(), _, HImp.refl _ _, rfl⟩
    | true =>
    by_cases htt : t0 = t
    · have e9 : ((t0 : Int) = (t : Int)) = True := eq_true (by omega)
      rw [decide_eq_true htt] at hoi
      simp (config := { maxSteps := 4000000 }) only [↓sx0, ↓sx1, ↓sx2, ↓sx3, ↓sx4, ↓sx5, ↓sx6, sx0, sx1, sx2, sx3, sx4, sx5, sx6, tf94, ev3_hold, sxo, sxc, sxp, sxq, sxr, sxs, sxl, sxm, simprocAttr, e9, dn]
      refine CallOb.pureH (fun w' hp => hho _ w' hp) ?_
      rintro q N2 rfl
      refine ⟨?_⟩
      rw [hoi]
      simp (config := { maxSteps := 4000000 }) only [↓sx0, ↓sx1, ↓sx2, ↓sx3, ↓sx4, ↓sx5, ↓sx6, sx0, sx1, sx2, sx3, sx4, sx5, sx6, tf94, ev3_hold, sxo, sxc, sxp, sxq, sxr, sxs, sxl, sxm, simprocAttr]
      exact ⟨(), _, by rw [Bool.not_not], HImp.app _ _ _, rfl⟩
    · have e9 : ((t0 : Int) = (t : Int)) = False := eq_false (by omega)
      rw [decide_eq_false htt, Bool.false_and] at hoi
      rw [hoi]
      simp (config := { maxSteps := 4000000 }) only [↓sx0, ↓sx1, ↓sx2, ↓sx3, ↓sx4, ↓sx5, ↓sx6, sx0, sx1, sx2, sx3, sx4, sx5, sx6, tf94, ev3_hold, sxo, sxc, sxp, sxq, sxr, sxs, sxl, sxm, simprocAttr, e9]
      exact ⟨(), _, HImp.refl _ _, rfl⟩
  rintro _ H2 g2 rfl
  cases hco : (ci && off) with
  | false =>
    rw [hco] at hosi
    refine ⟨?_⟩
    simp (config := { maxSteps := 4000000 }) only [↓sx0, ↓sx1, ↓sx2, ↓sx3, ↓sx4, ↓sx5, ↓sx6, sx0, sx1, sx2, sx3, sx4, sx5, sx6, tf94, ev3_hold, sxo, sxc, sxp, sxq, sxr, sxs, sxl, sxm, simprocAttr, e8]
    exact ⟨(i + 1, n), _, ⟨rfl, rfl⟩, HImp.refl _ _, ⟨by simp only []; omega, hosi, rfl⟩, by simp only []; omega⟩
  | true =>
  rw [hco] at hosi
  simp only [if_true] at hosi
  refine ⟨?_⟩
  simp (config := { maxSteps := 4000000 }) only [↓sx0, ↓sx1, ↓sx2, ↓sx3, ↓sx4, ↓sx5, ↓sx6, sx0, sx1, sx2, sx3, sx4, sx5, sx6, tf94, ev3_hold, sxo, sxc, sxp, sxq, sxr, sxs, sxl, sxm, simprocAttr]
  refine at_1 (hrU _) b1_len hUi rfl fun ad => ?_
  cases ui with
  | true =>
    simp (config := { maxSteps := 4000000 }) only [↓sx0, ↓sx1, ↓sx2, ↓sx3, ↓sx4, ↓sx5, ↓sx6, sx0, sx1, sx2, sx3, sx4, sx5, sx6, tf94, ev3_hold, sxo, sxc, sxp, sxq, sxr, sxs, sxl, sxm, simprocAttr]
    rw [hcost, hfi hosi]
    rfl
  | false =>
    have e10 : wr (n + x9) = n + x9 := wrap_id (by omega)
    simp (config := { maxSteps := 4000000 }) only [↓sx0, ↓sx1, ↓sx2, ↓sx3, ↓sx4, ↓sx5, ↓sx6, sx0, sx1, sx2, sx3, sx4, sx5, sx6, tf94, ev3_hold, sxo, sxc, sxp, sxq, sxr, sxs, sxl, sxm, simprocAttr, e8, e10]
    exact ⟨(i + 1, n + x9), _, ⟨rfl, rfl⟩, HImp.refl _ _, ⟨by simp only []; omega, hosi, rfl⟩, by simp only []; omega⟩
end Go.Proofs.YtaloedccoadedaaDoor

namespace Go.Proofs.YtaloedccoadedaaDoor
open Go.RowKit Go.SX
set_option maxRecDepth 20000
set_option maxHeartbeats 0
set_option linter.unusedSimpArgs false
set_option linter.unusedVariables false
def RowsP (g : Crs) (q : Value) (N : List HO) : Prop := ∃ al cl qs, q = .slice (some al) g.T cl ∧ HO.row (.slice (some al) g.T cl) 22 1 (cat lpc qs) ∈ N ∧ HasR g.n g.T qs (fun s => g.onw (g.T - 1 - s)) N
theorem rrows_fn (w : World) (hw : Ways w) (v vm vc vu : Value) (d : Dis) (hd : DsOk w v d) (hE : d.E = 0) (hm : LLOk i1 1 w vm (apL d.c)) (count must : Nat → Bool) (hcn : Sl w vc 1 (cat b1 (rowF d.rs.length count))) (hmu : Sl w vu 1 (cat b1 (rowF d.rs.length must))) :
    SX.Fn Tryd.prog 90 [v, vm, vc, vu] w (fun _ => False) (RowsP (d.crs (d.prc count must))) := by
  have hd0 := hd
  have hm0 := hm
  have hgo := Dis.crs_ok hE (Dis.prc_ok hE count must)
  obtain ⟨hok, hdr, hpc, hm12, hrep⟩ := Dis.E_zero hE
  have hown := fun (k t : Nat) (hk : k < d.c.depth.length) (ht : t < d.c.tide.length) (H : List HO) w' (hp : Hp ⟨w, fun _ => False⟩ H w') => rown_fn w' (hw.hp hp) v vm vc vu d (hd0.hp hp) hE (hm0.hp hp) count must (hcn.hp (fun _ _ => id) hp) (hmu.hp (fun _ _ => id) hp) k t hk ht
  obtain ⟨_, _, hW, hH, hlen⟩ := hok.dims
  have h144 : d.c.depth.length ≤ 144 := by rw [hlen]; exact Nat.le_trans (Nat.mul_le_mul hW.2 hH.2) (by decide)
  have hT60 := hok.2.2.2.1
  have hT1 : 1 ≤ d.c.tide.length := hgo.T1
  have hnr : ∀ i k, i < d.c.depth.length → k < d.c.depth.length → (d.crs (d.prc count must)).nr i k = decide ((dst d.c.W d.c.H i k : Int) ≤ d.pc) := fun i k hi hk => by
    show (decide (i < d.c.depth.length ∧ k < d.c.depth.length) && _) = _
    rw [decide_eq_true ⟨hi, hk⟩, Bool.true_and]
  have hgn : (d.crs (d.prc count must)).n = d.c.depth.length := rfl
  have hgT : (d.crs (d.prc count must)).T = d.c.tide.length := rfl
  obtain ⟨pa, aA, cA, rfl, hal, hsA, hAt⟩ := hm.at i1_len (by decide)
  have hAl : (apL d.c).length = d.c.depth.length := rowF_len _ _
  have hapl : ∀ k, (apRow d.c k).length = d.c.depth.length := fun k => rowF_len _ _
  have hAg := fun i (h : i < d.c.depth.length) => hAt i _ (ap_get d.c h)
  have hA2 := fun i k (h : k < d.c.depth.length) => ap_get2 d.c i h
  simp only [hapl] at hAg
  rw [hAl] at hsA hal hown ⊢
  obtain ⟨sD, sT, sS, sR, rfl, hc, hsR⟩ := hd
  have hD := detR_ok (X := fun _ => False) hw hc (fun _ _ => id)
  obtain ⟨_, _, _, hh, hsD, hsT, hsS⟩ := hc
  cases hh
  obtain ⟨aT, nT, cT, rfl⟩ := hsT.shape
  have hnT := hsT.le spc_len (by omega)
  subst hnT
  have dn : (∀ xs, detR (.agg #[I d.c.wide, I d.c.high, sD, .slice aT d.c.tide.length cT, sS]) d.c 94 xs = none) := fun _ => rfl
  obtain ⟨g, hg⟩ : ∃ g, d.crs (d.prc count must) = g := ⟨_, rfl⟩
  rw [hg] at hgo hgn hgT ⊢
  simp only [hg] at hown hnr
  have hmb := fun (k : Nat) (hk : k + 1 ≤ g.T) (x : Nat) => Crs.mins_bd (g := g) (row := g.onw k) (fun y _ => (onw_pos hgo hk y).1) x
  have hcb := fun t x => cost_pos hgo t x
  have hob := fun (k : Nat) (hk : k + 1 ≤ g.T) (x : Nat) => onw_pos hgo hk x
  have hmt := fun row i k => g.mins_top row i k
  have honw : ∀ k x, g.onw (k + 1) x = min NV (g.cost (g.T - 1 - (k + 1)) x + g.mins (g.onw k) x g.n) := fun _ _ => rfl
  have honw0 : ∀ x, g.onw 0 x = g.cost (g.T - 1) x := fun _ => rfl
  have hmz : ∀ row i, g.mins row i 0 = NV := fun _ _ => rfl
  have hms : ∀ row i k, g.mins row i (k + 1) = if g.nr i k = true ∧ row k < g.mins row i k then row k else g.mins row i k := fun _ _ _ => rfl
  unfold RowsP
  rw [hgn] at honw hmb
  rw [hgT] at honw honw0 hmb hob
  simp only [hgn, hgT]
  obtain ⟨n, hn⟩ : ∃ n, d.c.depth.length = n := ⟨_, rfl⟩
  obtain ⟨T, hTe⟩ : ∃ T, d.c.tide.length = T := ⟨_, rfl⟩
  rw [hn] at hmb honw hal hsA hown hnr hAg hA2 h144 hgn ⊢
  rw [hTe] at hmb hob honw honw0 hown hT60 hT1 hD dn hgT ⊢
  have hrA := fun H => hsA.rd0 H
  have e1 : wr ((T : Int) - 1) = (T : Int) - 1 := wrap_id (by omega)
  refine walkC [23, 38] [] [] hD Tryd.func90 rfl Tryd.ntmps90 res90 (by kernel_rfl) no_facts ?_
  simp (config := { maxSteps := 4000000 }) only [↓sx0, ↓sx1, ↓sx2, ↓sx3, ↓sx4, ↓sx5, ↓sx6, sx0, sx1, sx2, sx3, sx4, sx5, sx6, tf90, ev3_hold, sxo, sxc, sxp, sxq, sxr, sxs, sxl, sxm, simprocAttr, e1]
  refine ⟨by omega, by omega, by omega, fun bl => ?_⟩
  have hz0 : zerosL T [Value.slice none 0 0] = cat lpc (List.replicate T (([], none, 0, 0) : Lp Int)) := zeros_cat lpc ([], none, 0, 0) T
  refine loop_constH [HO.row (.slice (some ⟨bl, 0, none⟩) T T) 22 1 (cat lpc (List.replicate T (([], none, 0, 0) : Lp Int)))] (by rw [← hz0]; exact HImp.refl _ _) [(11, 15), (24, 91)] (fun q : Nat × List (Lp Int) => [(11, I ((q.1 : Int) - 1))])
    (fun q H1 => q.1 ≤ T ∧ q.2.length = T ∧ ∃ D, H1 = HO.row (.slice (some ⟨bl, 0, none⟩) T T) 22 1 (cat lpc q.2) :: D ∧ ∀ s, q.1 ≤ s → s < T → ∃ a, q.2[s]? = some (rowF n (g.onw (T - 1 - s)), some a, n, n) ∧ HO.row (.slice (some a) n n) 3 1 (ints (rowF n (g.onw (T - 1 - s)))) ∈ D) (fun q => q.1) (T, List.replicate T ([], none, 0, 0)) ?_ ⟨Nat.le_refl _, by simp only [List.length_replicate], [], rfl, fun s h1 h2 => by simp only [] at h1; omega⟩ ?_
  · simp (config := { maxSteps := 4000000 }) only [↓sx0, ↓sx1, ↓sx2, ↓sx3, ↓sx4, ↓sx5, ↓sx6, sx0, sx1, sx2, sx3, sx4, sx5, sx6, tf90, ev3_hold, sxo, sxc, sxp, sxq, sxr, sxs, sxl, sxm, simprocAttr]
    try simp
  rintro ⟨j, qs⟩ H1 g1 hinv
  simp only [] at hinv
  obtain ⟨hj, hql, D, rfl, hD2⟩ := hinv
  cases j with
  | zero =>
    have e7 : (((0 : Nat) : Int) - 1 ≥ 0) = False := eq_false (by omega)
    refine ⟨?_⟩
    simp (config := { maxSteps := 4000000 }) only [↓sx0, ↓sx1, ↓sx2, ↓sx3, ↓sx4, ↓sx5, ↓sx6, sx0, sx1, sx2, sx3, sx4, sx5, sx6, tf90, ev3_hold, sxo, sxc, sxp, sxq, sxr, sxs, sxl, sxm, simprocAttr, e7]
    exact ⟨⟨bl, 0, none⟩, T, qs, rfl, List.mem_cons_self, hql, fun s hs => by
      obtain ⟨a, h1, h2⟩ := hD2 s (Nat.zero_le _) hs
      exact ⟨a, n, h1, List.mem_cons_of_mem _ h2⟩⟩
  | succ s =>
  have e0 : (((s + 1 : Nat) : Int) - 1) = (s : Int) := by omega
  have e7 : ((s : Int) ≥ 0) = True := eq_true (by omega)
  have e8 : wr ((s : Int) - 1) = ((s : Nat) : Int) - 1 := wrap_id (by omega)
  have e9 : wr ((s : Int) + 1) = ((s + 1 : Nat) : Int) := (wrap_id (by omega)).trans (by omega)
  have hlt : s < T := by omega
  -- the new row
  obtain ⟨O, hO⟩ : ∃ O, g.onw (T - 1 - s) = O := ⟨_, rfl⟩
  have hO0 : s + 1 = T → O = g.cost s := fun h => by
    rw [← hO, show T - 1 - s = 0 by omega]
    funext x
    rw [honw0, show T - 1 = s by omega]
  have hO1 : s + 1 < T → ∀ x, O x = min NV (g.cost s x + g.mins (g.onw (T - 1 - (s + 1))) x n) := fun h x => by
    rw [← hO, show T - 1 - s = (T - 1 - (s + 1)) + 1 by omega, honw, show T - 1 - (T - 1 - (s + 1) + 1) = s by omega]
  have hcs := hcb s
  have howns := fun k hk => hown k s hk hlt
  have hrow : ∀ (ps : List (Lp Int)), ps.length = T → ∀ H : List HO, HO.row (.slice (some ⟨bl, 0, none⟩) T T) 22 1 (cat lpc ps) ∈ H → Rdv ⟨w, fun _ => False⟩ H (.slice (some ⟨bl, 0, none⟩) T T) 1 (cat lpc ps) := fun ps hps H h => row_rdv (w0 := ⟨w, fun _ => False⟩) h ⟨_, _, _, rfl, by rw [cat_len lpc_len, hps], fun h => by cases h⟩
  refine ⟨?_⟩
  simp (config := { maxSteps := 4000000 }) only [↓sx0, ↓sx1, ↓sx2, ↓sx3, ↓sx4, ↓sx5, ↓sx6, sx0, sx1, sx2, sx3, sx4, sx5, sx6, tf90, ev3_hold, sxo, sxc, sxp, sxq, sxr, sxs, sxl, sxm, simprocAttr, e0, e7]
  refine ⟨by omega, by omega, by omega, fun b => ⟨by omega, _, rfl, ?_⟩⟩
  refine wr_at (A := [HO.row (.slice (some ⟨b, 0, none⟩) n n) 3 1 (zerosL n [Value.int IntKind.i64 0])]) (B := D) (ad := ⟨bl, 0, none⟩) (len := T) (cap := T) (e := 22) (l := qs) (f := lpc) (u := ((rowF n O, some ⟨b, 0, none⟩, n, n) : Lp Int)) rfl lpc_len hql (by omega) ?_
  obtain ⟨QS, hQS⟩ : ∃ QS, qs.set s ((rowF n O, some ⟨b, 0, none⟩, n, n) : Lp Int) = QS := ⟨_, rfl⟩
  have hQl : QS.length = T := by rw [← hQS, List.length_set]; exact hql
  have hQs : QS[s]? = some (rowF n O, some ⟨b, 0, none⟩, n, n) := by rw [← hQS, List.getElem?_set_self (by omega)]
  have hQo : ∀ u, u ≠ s → QS[u]? = qs[u]? := fun u hu => by rw [← hQS, List.getElem?_set_ne (fun h => hu h.symm)]
  have hrq := hrow QS hQl
  have hz : zerosL n [Value.int IntKind.i64 0] = ints (rowF n fun x => if x < 0 then O x else 0) := by
    rw [show zerosL n [Value.int IntKind.i64 0] = ints (List.replicate n 0) from zeros_cat i1 0 n, rowF_rep]
    rfl
  rw [hQS]
  simp (config := { maxSteps := 4000000 }) only [↓sx0, ↓sx1, ↓sx2, ↓sx3, ↓sx4, ↓sx5, ↓sx6, sx0, sx1, sx2, sx3, sx4, sx5, sx6, tf90, ev3_hold, sxo, sxc, sxp, sxq, sxr, sxs, sxl, sxm, simprocAttr]
  refine loop_constH (HO.row (.slice (some ⟨b, 0, none⟩) n n) 3 1 (ints (rowF n fun x => if x < 0 then O x else 0)) :: HO.row (.slice (some ⟨bl, 0, none⟩) T T) 22 1 (cat lpc QS) :: D) (by rw [← hz]; exact HImp.refl _ _) [(12, 15), (34, 91)] (fun i : Nat => [(12, I i)])
    (fun i H2 => i ≤ n ∧ H2 = HO.row (.slice (some ⟨b, 0, none⟩) n n) 3 1 (ints (rowF n fun x => if x < i then O x else 0)) :: HO.row (.slice (some ⟨bl, 0, none⟩) T T) 22 1 (cat lpc QS) :: D) (fun i => n - i) 0 ?_ ⟨Nat.zero_le _, rfl⟩ ?_
  · simp (config := { maxSteps := 4000000 }) only [↓sx0, ↓sx1, ↓sx2, ↓sx3, ↓sx4, ↓sx5, ↓sx6, sx0, sx1, sx2, sx3, sx4, sx5, sx6, tf90, ev3_hold, sxo, sxc, sxp, sxq, sxr, sxs, sxl, sxm, simprocAttr]
    try simp
  rintro i H2 g2 ⟨hi, rfl⟩
  by_cases hin : i = n
  · have f7 : ((i : Int) < (n : Int)) = False := eq_false (by omega)
    have hfull : (rowF n fun x => if x < i then O x else 0) = rowF n O := rowF_congr fun x hx => if_pos (by omega)
    rw [hfull]
    refine ⟨?_⟩
    simp (config := { maxSteps := 4000000 }) only [↓sx0, ↓sx1, ↓sx2, ↓sx3, ↓sx4, ↓sx5, ↓sx6, sx0, sx1, sx2, sx3, sx4, sx5, sx6, tf90, ev3_hold, sxo, sxc, sxp, sxq, sxr, sxs, sxl, sxm, simprocAttr, f7, e8]
    refine ⟨(s, QS), _, rfl, HImp.perm (List.Perm.swap _ _ _), ⟨by simp only []; omega, hQl, _, rfl, fun u h1 h2 => ?_⟩, by simp only []; omega⟩
    simp only [] at h1 ⊢
    by_cases e : u = s
    · subst e
      rw [hO]
      exact ⟨_, hQs, List.mem_cons_self⟩
    · obtain ⟨a, k1, k2⟩ := hD2 u (by omega) h2
      exact ⟨a, by rw [hQo u e]; exact k1, List.mem_cons_of_mem _ k2⟩
  have f7 : ((i : Int) < (n : Int)) = True := eq_true (by omega)
  have f8 : wr ((i : Int) + 1) = ((i + 1 : Nat) : Int) := (wrap_id (by omega)).trans (by omega)
  have hiln : i < n := by omega
  have howni := fun H w' hp => howns i hiln H w' hp
  have hci := hcs i
  obtain ⟨C, hC⟩ : ∃ C, g.cost s i = C := ⟨_, rfl⟩
  rw [hC] at hci howni
  obtain ⟨HH, hHH⟩ : ∃ HH, HO.row (.slice (some ⟨b, 0, none⟩) n n) 3 1 (ints (rowF n fun x => if x < i then O x else 0)) :: HO.row (.slice (some ⟨bl, 0, none⟩) T T) 22 1 (cat lpc QS) :: D = HH := ⟨_, rfl⟩
  have hmem1 : ∀ h ∈ D, h ∈ HH := fun h hh => by rw [← hHH]; simp [hh]
  have hmem2 : HO.row (.slice (some ⟨bl, 0, none⟩) T T) 22 1 (cat lpc QS) ∈ HH := by rw [← hHH]; simp
  rw [hHH]
  refine ⟨?_⟩
  simp (config := { maxSteps := 4000000 }) only [↓sx0, ↓sx1, ↓sx2, ↓sx3, ↓sx4, ↓sx5, ↓sx6, sx0, sx1, sx2, sx3, sx4, sx5, sx6, tf90, ev3_hold, sxo, sxc, sxp, sxq, sxr, sxs, sxl, sxm, simprocAttr, f7, dn]
  refine CallOb.pureH (fun w' hp => howni _ w' hp) ?_
  rintro q N rfl
  refine ⟨?_⟩
  simp (config := { maxSteps := 4000000 }) only [↓sx0, ↓sx1, ↓sx2, ↓sx3, ↓sx4, ↓sx5, ↓sx6, sx0, sx1, sx2, sx3, sx4, sx5, sx6, tf90, ev3_hold, sxo, sxc, sxp, sxq, sxr, sxs, sxl, sxm, simprocAttr]
  refine cut_constH [(13, 15), (47, 84)] (fun _ : Unit => [(13, I (O i))]) (fun _ H4 => H4 = N ++ HH) ?_ ?_
  · refine ⟨?_⟩
    simp (config := { maxSteps := 4000000 }) only [↓sx0, ↓sx1, ↓sx2, ↓sx3, ↓sx4, ↓sx5, ↓sx6, sx0, sx1, sx2, sx3, sx4, sx5, sx6, tf90, ev3_hold, sxo, sxc, sxp, sxq, sxr, sxs, sxl, sxm, simprocAttr]
    refine cut_constH [(47, 54)] (fun _ : Unit => [(54, .bool (decide (s + 1 < T) && decide (C < NV)))]) (fun _ H3 => H3 = N ++ HH) ?_ ?_
    · by_cases h1 : s + 1 < T
      · have e10 : ((s : Int) < (T : Int) - 1) = True := eq_true (by omega)
        rw [decide_eq_true h1, Bool.true_and]
        refine ⟨?_⟩
        simp (config := { maxSteps := 4000000 }) only [↓sx0, ↓sx1, ↓sx2, ↓sx3, ↓sx4, ↓sx5, ↓sx6, sx0, sx1, sx2, sx3, sx4, sx5, sx6, tf90, ev3_hold, sxo, sxc, sxp, sxq, sxr, sxs, sxl, sxm, simprocAttr, e1, e10]
        exact ⟨(), _, rfl, HImp.refl _ _, rfl⟩
      · have e10 : ((s : Int) < (T : Int) - 1) = False := eq_false (by omega)
        rw [decide_eq_false h1, Bool.false_and]
        refine ⟨?_⟩
        simp (config := { maxSteps := 4000000 }) only [↓sx0, ↓sx1, ↓sx2, ↓sx3, ↓sx4, ↓sx5, ↓sx6, sx0, sx1, sx2, sx3, sx4, sx5, sx6, tf90, ev3_hold, sxo, sxc, sxp, sxq, sxr, sxs, sxl, sxm, simprocAttr, e1, e10]
        exact ⟨(), _, HImp.refl _ _, rfl⟩
    rintro _ H3 g3 rfl
    by_cases h1 : s + 1 < T
    case neg =>
      rw [decide_eq_false h1, Bool.false_and, hO0 (by omega), hC]
      refine ⟨?_⟩
      simp (config := { maxSteps := 4000000 }) only [↓sx0, ↓sx1, ↓sx2, ↓sx3, ↓sx4, ↓sx5, ↓sx6, sx0, sx1, sx2, sx3, sx4, sx5, sx6, tf90, ev3_hold, sxo, sxc, sxp, sxq, sxr, sxs, sxl, sxm, simprocAttr]
      exact ⟨(), _, HImp.refl _ _, rfl⟩
    by_cases h2 : C < NV
    case neg =>
      have hOi : O i = C := by
        rw [hO1 h1 i, hC]
        have := (hmb (T - 1 - (s + 1)) (by omega) i).1
        omega
      rw [decide_eq_false h2, Bool.and_false, hOi]
      refine ⟨?_⟩
      simp (config := { maxSteps := 4000000 }) only [↓sx0, ↓sx1, ↓sx2, ↓sx3, ↓sx4, ↓sx5, ↓sx6, sx0, sx1, sx2, sx3, sx4, sx5, sx6, tf90, ev3_hold, sxo, sxc, sxp, sxq, sxr, sxs, sxl, sxm, simprocAttr]
      exact ⟨(), _, HImp.refl _ _, rfl⟩
    rw [decide_eq_true h1, decide_eq_true h2]
    obtain ⟨an, hqn, hrn⟩ := hD2 (s + 1) (Nat.le_refl _) h1
    rw [← hQo (s + 1) (by omega)] at hqn
    have hOi := hO1 h1 i
    rw [hC] at hOi
    have hmbi := hmb (T - 1 - (s + 1)) (by omega) i
    have hobx := fun x => hob (T - 1 - (s + 1)) (by omega) x
    have hmsi := hms (g.onw (T - 1 - (s + 1))) i
    have hmzi := hmz (g.onw (T - 1 - (s + 1))) i
    have hmti := hmt (g.onw (T - 1 - (s + 1))) i
    obtain ⟨P, hP⟩ : ∃ P, g.onw (T - 1 - (s + 1)) = P := ⟨_, rfl⟩
    rw [hP] at hqn hrn hOi hmsi hmzi hmbi hmti
    simp only [hP] at hobx
    have hrn2 := row_rdv (w0 := ⟨w, fun _ => False⟩) (H := N ++ HH) (List.mem_append_right _ (hmem1 _ hrn)) ⟨_, _, _, rfl, by rw [cat_len i1_len, rowF_len], fun h => by cases h⟩
    obtain ⟨ai, ci, hpi, hsi⟩ := hAg i hiln
    have hri := fun H => hsi.rd0 H
    refine ⟨?_⟩
    simp (config := { maxSteps := 4000000 }) only [↓sx0, ↓sx1, ↓sx2, ↓sx3, ↓sx4, ↓sx5, ↓sx6, sx0, sx1, sx2, sx3, sx4, sx5, sx6, tf90, ev3_hold, sxo, sxc, sxp, sxq, sxr, sxs, sxl, sxm, simprocAttr]
    refine loop_constH (N ++ HH) (HImp.refl _ _) [(14, 15), (55, 80)] (fun k : Nat => [(14, I (g.mins P i k)), (15, I k)]) (fun k H5 => k ≤ n ∧ H5 = N ++ HH) (fun k => n - k) 0 ?_ ⟨Nat.zero_le _, rfl⟩ ?_
    · simp (config := { maxSteps := 4000000 }) only [↓sx0, ↓sx1, ↓sx2, ↓sx3, ↓sx4, ↓sx5, ↓sx6, sx0, sx1, sx2, sx3, sx4, sx5, sx6, tf90, ev3_hold, sxo, sxc, sxp, sxq, sxr, sxs, sxl, sxm, simprocAttr]
      try simp [hmzi, NV]
    rintro k H5 g5 ⟨hk, rfl⟩
    by_cases hkn : k = n
    · have k7 : ((k : Int) < (n : Int)) = False := eq_false (by omega)
      subst hkn
      have k9 : wr (C + g.mins P i k) = C + g.mins P i k := wrap_id (by unfold NV at *; omega)
      refine ⟨?_⟩
      simp (config := { maxSteps := 4000000 }) only [↓sx0, ↓sx1, ↓sx2, ↓sx3, ↓sx4, ↓sx5, ↓sx6, sx0, sx1, sx2, sx3, sx4, sx5, sx6, tf90, ev3_hold, sxo, sxc, sxp, sxq, sxr, sxs, sxl, sxm, simprocAttr, k7, k9]
      exact ⟨(), _, by rw [hOi]; rfl, HImp.refl _ _, rfl⟩
    have k7 : ((k : Int) < (n : Int)) = True := eq_true (by omega)
    have k8 : wr ((k : Int) + 1) = ((k + 1 : Nat) : Int) := (wrap_id (by omega)).trans (by omega)
    have hkln : k < n := by omega
    have hnrk := hnr i k hiln hkln
    have hmsk := hmsi k
    have hPk : (rowF n P)[k]? = some (P k) := rowF_get _ hkln
    have hAk := hA2 i k hkln
    obtain ⟨Z, hZ⟩ : ∃ Z : Int, ((dst d.c.W d.c.H i k : Nat) : Int) = Z := ⟨_, rfl⟩
    rw [hZ] at hnrk hAk
    refine ⟨?_⟩
    simp (config := { maxSteps := 4000000 }) only [↓sx0, ↓sx1, ↓sx2, ↓sx3, ↓sx4, ↓sx5, ↓sx6, sx0, sx1, sx2, sx3, sx4, sx5, sx6, tf90, ev3_hold, sxo, sxc, sxp, sxq, sxr, sxs, sxl, sxm, simprocAttr, k7]
    refine at_1 (hrA _) lpc_len hpi (show lpc _ = [Value.slice ai n ci] from rfl) fun ad1 => ?_
    simp (config := { maxSteps := 4000000 }) only [↓sx0, ↓sx1, ↓sx2, ↓sx3, ↓sx4, ↓sx5, ↓sx6, sx0, sx1, sx2, sx3, sx4, sx5, sx6, tf90, ev3_hold, sxo, sxc, sxp, sxq, sxr, sxs, sxl, sxm, simprocAttr]
    refine at_1 (hri _) i1_len hAk rfl fun ad2 => ?_
    by_cases hzp : Z ≤ d.pc
    · have q1 : (Z ≤ d.pc) = True := eq_true hzp
      rw [decide_eq_true hzp] at hnrk
      have hnew : min (g.mins P i k) (P k) = g.mins P i (k + 1) := by
        rw [hmsk, hnrk]
        by_cases hlt2 : P k < g.mins P i k
        · rw [if_pos ⟨rfl, hlt2⟩]
          omega
        · rw [if_neg (fun h => hlt2 h.2)]
          omega
      simp (config := { maxSteps := 4000000 }) only [↓sx0, ↓sx1, ↓sx2, ↓sx3, ↓sx4, ↓sx5, ↓sx6, sx0, sx1, sx2, sx3, sx4, sx5, sx6, tf90, ev3_hold, sxo, sxc, sxp, sxq, sxr, sxs, sxl, sxm, simprocAttr, q1, e9]
      refine at_1 (hrq _ (List.mem_append_right _ hmem2)) lpc_len hqn (show lpc _ = [Value.slice (some an) n n] from rfl) fun ad3 => ?_
      simp (config := { maxSteps := 4000000 }) only [↓sx0, ↓sx1, ↓sx2, ↓sx3, ↓sx4, ↓sx5, ↓sx6, sx0, sx1, sx2, sx3, sx4, sx5, sx6, tf90, ev3_hold, sxo, sxc, sxp, sxq, sxr, sxs, sxl, sxm, simprocAttr]
      refine at_1 hrn2 i1_len hPk rfl fun ad4 => ?_
      simp (config := { maxSteps := 4000000 }) only [↓sx0, ↓sx1, ↓sx2, ↓sx3, ↓sx4, ↓sx5, ↓sx6, sx0, sx1, sx2, sx3, sx4, sx5, sx6, tf90, ev3_hold, sxo, sxc, sxp, sxq, sxr, sxs, sxl, sxm, simprocAttr, k8]
      exact ⟨k + 1, _, ⟨by rw [hnew], rfl⟩, HImp.refl _ _, ⟨by omega, rfl⟩, by omega⟩
    · have q1 : (Z ≤ d.pc) = False := eq_false hzp
      rw [decide_eq_false hzp] at hnrk
      have hnew : g.mins P i (k + 1) = g.mins P i k := by
        rw [hmsk, hnrk, if_neg (fun h => by cases h.1)]
      simp (config := { maxSteps := 4000000 }) only [↓sx0, ↓sx1, ↓sx2, ↓sx3, ↓sx4, ↓sx5, ↓sx6, sx0, sx1, sx2, sx3, sx4, sx5, sx6, tf90, ev3_hold, sxo, sxc, sxp, sxq, sxr, sxs, sxl, sxm, simprocAttr, q1, k8]
      exact ⟨k + 1, _, ⟨by rw [hnew], rfl⟩, HImp.refl _ _, ⟨by omega, rfl⟩, by omega⟩
  rintro _ H4 g4 rfl
  have hset : (rowF n fun x => if x < i then O x else 0).set i (O i) = rowF n fun x => if x < i + 1 then O x else 0 := by
    rw [rowF_set]
    refine rowF_congr fun x hx => ?_
    by_cases e : x = i
    · rw [if_pos e, if_pos (by omega), e]
    · rw [if_neg e]
      by_cases h : x < i
      · rw [if_pos h, if_pos (by omega)]
      · rw [if_neg h, if_neg (by omega)]
  refine ⟨?_⟩
  simp (config := { maxSteps := 4000000 }) only [↓sx0, ↓sx1, ↓sx2, ↓sx3, ↓sx4, ↓sx5, ↓sx6, sx0, sx1, sx2, sx3, sx4, sx5, sx6, tf90, ev3_hold, sxo, sxc, sxp, sxq, sxr, sxs, sxl, sxm, simprocAttr]
  refine at_1 (hrq _ (List.mem_append_right _ hmem2)) lpc_len hQs (show lpc _ = [Value.slice (some ⟨b, 0, none⟩) n n] from rfl) fun ad3 => ?_
  simp (config := { maxSteps := 4000000 }) only [↓sx0, ↓sx1, ↓sx2, ↓sx3, ↓sx4, ↓sx5, ↓sx6, sx0, sx1, sx2, sx3, sx4, sx5, sx6, tf90, ev3_hold, sxo, sxc, sxp, sxq, sxr, sxs, sxl, sxm, simprocAttr]
  refine ⟨by omega, by omega, _, rfl, ?_⟩
  refine wr_at (A := N) (B := HO.row (.slice (some ⟨bl, 0, none⟩) T T) 22 1 (cat lpc QS) :: D) (ad := ⟨b, 0, none⟩) (len := n) (cap := n) (e := 3) (f := i1) (l := rowF n fun x => if x < i then O x else 0) (u := O i) (by rw [← hHH]) i1_len (by rw [rowF_len]) (by rw [rowF_len]; omega) ?_
  rw [hset]
  simp (config := { maxSteps := 4000000 }) only [↓sx0, ↓sx1, ↓sx2, ↓sx3, ↓sx4, ↓sx5, ↓sx6, sx0, sx1, sx2, sx3, sx4, sx5, sx6, tf90, ev3_hold, sxo, sxc, sxp, sxq, sxr, sxs, sxl, sxm, simprocAttr, f8]
  exact ⟨i + 1, _, rfl, HImp.app _ _ _, ⟨by omega, rfl⟩, by omega⟩
end Go.Proofs.YtaloedccoadedaaDoor

namespace Go.Proofs.YtaloedccoadedaaDoor
open Go.RowKit Go.SX
set_option maxRecDepth 20000
set_option maxHeartbeats 0
set_option linter.unusedSimpArgs false
set_option linter.unusedVariables false
theorem every_fn (w : World) (v : Value) (d : Dis) (hd : DsOk w v d) (hm : d.rs.length ≤ 1000) (so : Bool) : SX.Fn Tryd.prog 61 [v, .bool so] w (fun _ => False) fun q N => Got q 4 1 b1 (rowF d.rs.length fun _ => so) N := by
  obtain ⟨sD, sT, sS, sR, rfl, hc, hsR⟩ := hd
  obtain ⟨aR, nR, cR, rfl⟩ := hsR.shape
  have hnR := hsR.le rpc_len (by omega)
  subst hnR
  obtain ⟨m, hme⟩ : ∃ m, d.rs.length = m := ⟨_, rfl⟩
  rw [hme] at hm ⊢
  refine walk [] [] (det0_ok _ _) Tryd.func61 rfl Tryd.ntmps61 res61 (by kernel_rfl) no_facts ?_
  simp (config := { maxSteps := 4000000 }) only [↓sx0, ↓sx1, ↓sx2, ↓sx3, ↓sx4, ↓sx5, ↓sx6, sx0, sx1, sx2, sx3, sx4, sx5, sx6, tf61, ev3_hold, sxo, sxc, sxp, sxq, sxr, sxs, sxl, sxm, simprocAttr]
  refine ⟨by omega, by omega, by omega, fun b => ?_⟩
  have hz : zerosL m [Value.bool false] = cat b1 (rowF m fun x => if x < 0 then so else false) := by
    rw [show (rowF m fun x => if x < 0 then so else false) = List.replicate m false by rw [rowF_rep]; rfl]
    exact zeros_cat b1 false m
  refine loop_constH [HO.row (.slice (some ⟨b, 0, none⟩) m m) 4 1 (cat b1 (rowF m fun x => if x < 0 then so else false))] (by rw [← hz]; exact HImp.refl _ _) [(6, 6), (11, 20)] (fun i : Nat => [(6, I i)])
    (fun i H1 => i ≤ m ∧ H1 = [HO.row (.slice (some ⟨b, 0, none⟩) m m) 4 1 (cat b1 (rowF m fun x => if x < i then so else false))]) (fun i => m - i) 0 ?_ ⟨Nat.zero_le _, rfl⟩ ?_
  · simp (config := { maxSteps := 4000000 }) only [↓sx0, ↓sx1, ↓sx2, ↓sx3, ↓sx4, ↓sx5, ↓sx6, sx0, sx1, sx2, sx3, sx4, sx5, sx6, tf61, ev3_hold, sxo, sxc, sxp, sxq, sxr, sxs, sxl, sxm, simprocAttr]
    try simp
  rintro i H1 g1 ⟨hi, rfl⟩
  by_cases hin : i = m
  · have e7 : ((i : Int) < (m : Int)) = False := eq_false (by omega)
    have hfull : (rowF m fun x => if x < i then so else false) = rowF m fun _ => so := rowF_congr fun x hx => if_pos (by omega)
    rw [hfull]
    refine ⟨?_⟩
    simp (config := { maxSteps := 4000000 }) only [↓sx0, ↓sx1, ↓sx2, ↓sx3, ↓sx4, ↓sx5, ↓sx6, sx0, sx1, sx2, sx3, sx4, sx5, sx6, tf61, ev3_hold, sxo, sxc, sxp, sxq, sxr, sxs, sxl, sxm, simprocAttr, e7]
    exact Got.row (rowF_len _ _) List.mem_cons_self (fun h => by cases h)
  have e7 : ((i : Int) < (m : Int)) = True := eq_true (by omega)
  have e8 : wr (i + 1) = ((i + 1 : Nat) : Int) := (wrap_id (by omega)).trans (by omega)
  have hset : (rowF m fun x => if x < i then so else false).set i so = rowF m fun x => if x < i + 1 then so else false := by
    rw [rowF_set]
    refine rowF_congr fun x hx => ?_
    by_cases e : x = i
    · rw [if_pos e, if_pos (by omega)]
    · rw [if_neg e]
      by_cases h : x < i
      · rw [if_pos h, if_pos (by omega)]
      · rw [if_neg h, if_neg (by omega)]
  refine ⟨?_⟩
  simp (config := { maxSteps := 4000000 }) only [↓sx0, ↓sx1, ↓sx2, ↓sx3, ↓sx4, ↓sx5, ↓sx6, sx0, sx1, sx2, sx3, sx4, sx5, sx6, tf61, ev3_hold, sxo, sxc, sxp, sxq, sxr, sxs, sxl, sxm, simprocAttr, e7]
  refine ⟨by omega, _, rfl, ?_⟩
  refine wr_at (A := []) (B := []) (ad := ⟨b, 0, none⟩) (len := m) (cap := m) (e := 4) (f := b1) (l := rowF m fun x => if x < i then so else false) (u := so) rfl b1_len (by rw [rowF_len]) (by rw [rowF_len]; omega) ?_
  rw [hset]
  simp (config := { maxSteps := 4000000 }) only [↓sx0, ↓sx1, ↓sx2, ↓sx3, ↓sx4, ↓sx5, ↓sx6, sx0, sx1, sx2, sx3, sx4, sx5, sx6, tf61, ev3_hold, sxo, sxc, sxp, sxq, sxr, sxs, sxl, sxm, simprocAttr, e8]
  exact ⟨i + 1, _, rfl, HImp.refl _ _, ⟨by omega, rfl⟩, by omega⟩
end Go.Proofs.YtaloedccoadedaaDoor

