/- A part of a proof: the symbolic walk and what it shows of single functions. -/
import Derived.Test.YtcnlbnccbnapbaaDoorSqA
import Derived.Test.YtcnlbnccbnapbaaDoorSqJ
set_option linter.all false
namespace Go.Proofs.YtcnlbnccbnapbaaDoor
open Go.RowKit Go.SX
set_option maxRecDepth 10000
set_option maxHeartbeats 0
set_option linter.unusedSimpArgs false
set_option linter.unusedVariables false
def ptB (c : Cht) (b : Cls) (k t i x j : Nat) : Bool := match i with
  | 0 => decide (0 < j) && decide (x = k)
  | i + 1 => ((nbL c.W c.H x).take j).any (nowB c b k t i)
def canP (c : Cht) (b : Cls) (k t i x : Nat) : Bool := match i with
  | 0 => false
  | i + 1 => nowB c b k t i x
theorem ptB_now {c : Cht} (hok : c.ok) {b : Cls} {k t i x : Nat} (hx : x < c.depth.length) (hk : canB c b t k = true) : (ptB c b k t i x (nbL c.W c.H x).length && canB c b (t + i) x) = nowB c b k t i x := by
  obtain ⟨_, _, _, _, hlen⟩ := hok.dims
  cases i with
  | zero =>
    have h0 : 0 < (nbL c.W c.H x).length := List.length_pos_iff.2 (List.ne_nil_of_mem (nb_self _ _ _))
    unfold ptB nowB
    rw [decide_eq_true h0, Bool.true_and, Nat.add_zero]
    by_cases e : x = k
    · subst e
      rw [hk]
      simp
    · rw [decide_eq_false e, Bool.false_and]
  | succ i =>
    unfold ptB
    simp only []
    rw [nowB, List.take_length, Bool.and_comm, Nat.add_assoc]
    congr 1
    rw [Bool.eq_iff_iff, List.any_eq_true, List.any_eq_true]
    constructor
    · rintro ⟨y, hy, hn⟩
      have hyb : y < c.depth.length := by rw [hlen]; exact nbL_lt (by rw [← hlen]; exact hx) y hy
      exact ⟨y, List.mem_range.2 hyb, by rw [hn, Bool.true_and, List.contains_iff_mem]; exact nb_symm (by rw [← hlen]; exact hx) hy⟩
    · rintro ⟨y, hy, hn⟩
      rw [Bool.and_eq_true, List.contains_iff_mem] at hn
      exact ⟨y, nb_symm (by rw [← hlen]; exact List.mem_range.1 hy) hn.2, hn.1⟩
theorem rreach_fn (w : World) (hw : Ways w) (v : Value) (c : Cht) (hc : ChOk w v c) (hok : c.ok) (b : Cls) (r : Rmp) (hcl : clsB b = true) (hr : rampB c r = true) (t : Nat) (ht : t < c.tide.length) :
    SX.Fn Tryd.prog 65 [v, clv b, rmv r, I t] w (fun _ => False) fun q N => Got q 3 1 i1 (reachL c b r t) N := by
  have hc0 := hc
  have hD := detR_ok (X := fun _ => False) hw hc (fun _ _ => id)
  have hrd := fun (H : List HO) w' (hp : Hp ⟨w, fun _ => False⟩ H w') => rready5_fn w' (hw.hp hp) v c (hc0.hp hp) hok b r hcl hr t ht
  have hst := fun (x u : Nat) (hx : x < c.depth.length) (hu : u < c.tide.length) (H : List HO) w' (hp : Hp ⟨w, fun _ => False⟩ H w') => stands5_fn w' v c (hc0.hp hp) hok b x u hx hu
  have hne := fun (x : Nat) (hx : x < c.depth.length) (H : List HO) w' (hp : Hp ⟨w, fun _ => False⟩ H w') => rnear_fn w' (hw.hp hp) v c (hc0.hp hp) hok x hx
  have hrc := ramp_cell hr
  have hrk := fun h => rdy_can2 hok hrc ht (b := b) (r := r) h
  obtain ⟨sD, sT, sS, rfl, hsD, hsT, hsS⟩ := hc
  obtain ⟨aT, nT, cT, rfl⟩ := hsT.shape
  have hnT := hsT.le spc_len (by omega)
  subst hnT
  obtain ⟨eW, eH, hW, hH, hlen⟩ := hok.dims
  have h60 := hok.2.2.2.1
  have hwh : (c.depth.length : Int) = c.wide * c.high := hok.2.2.1
  have h144 : c.depth.length ≤ 144 := by rw [hlen]; exact Nat.le_trans (Nat.mul_le_mul hW.2 hH.2) (by decide)
  have hce : detR (.agg #[I c.wide, I c.high, sD, .slice aT c.tide.length cT, sS]) c 42 [.agg #[I c.wide, I c.high, sD, .slice aT c.tide.length cT, sS]] = some (I (wr (c.wide * c.high))) := (detR_eq _ c).2.1 _ _ _ _ _
  have ewh : IntKind.i64.wrap (c.wide * c.high) = (c.depth.length : Int) := by rw [← hwh]; exact wrap_id (by omega)
  have dn : (∀ xs, detR (.agg #[I c.wide, I c.high, sD, .slice aT c.tide.length cT, sS]) c 49 xs = none) ∧ (∀ xs, detR (.agg #[I c.wide, I c.high, sD, .slice aT c.tide.length cT, sS]) c 51 xs = none) ∧ (∀ xs, detR (.agg #[I c.wide, I c.high, sD, .slice aT c.tide.length cT, sS]) c 53 xs = none) := ⟨fun _ => rfl, fun _ => rfl, fun _ => rfl⟩
  obtain ⟨rc, rdr, rl, rm, rs⟩ := r
  unfold clv rmv at hrd
  unfold clv at hst
  unfold clv rmv
  simp only [] at hrd hrc hrk
  obtain ⟨k, hkk⟩ : ∃ k : Nat, rc = k := ⟨rc.toNat, by omega⟩
  subst hkk
  unfold reachL
  simp only [Int.toNat_natCast] at hrk ⊢
  have hpt := fun (h : rdyB c b ⟨k, rdr, rl, rm, rs⟩ t = true) (i x : Nat) (hx : x < c.depth.length) => ptB_now (i := i) hok hx (hrk h)
  obtain ⟨RD, hRD⟩ : ∃ RD, rdyB c b ⟨k, rdr, rl, rm, rs⟩ t = RD := ⟨_, rfl⟩
  rw [hRD] at hpt hrd ⊢
  clear hrk hRD
  obtain ⟨n, hn⟩ : ∃ n, c.depth.length = n := ⟨_, rfl⟩
  rw [hn] at hwh h144 ewh hrc
  simp only [hn] at hst hne hpt ⊢
  refine walk [] [] hD Tryd.func65 rfl Tryd.ntmps65 res65 (by kernel_rfl) no_facts ?_
  simp (config := { maxSteps := 4000000 }) only [↓sx0, ↓sx1, ↓sx2, ↓sx3, ↓sx4, ↓sx5, ↓sx6, sx0, sx1, sx2, sx3, sx4, sx5, sx6, tf65, ev3_hold, sxo, sxc, sxp, sxq, sxr, sxs, sxl, sxm, Int.reduceBEq, Int.reduceBNe, Int.reduceLT, Int.reduceLE, Int.reduceEq, Int.reduceGT, Int.reduceGE, Int.reduceToNat, ↓reduceIte, List.reduceReplicate, Nat.reduceAdd, Nat.reduceSub, Nat.reduceMul, Nat.reduceLT, Nat.reduceLeDiff, Nat.reduceBEq, Nat.reduceEqDiff, hce, ewh]
  refine ⟨by omega, by omega, by omega, fun bo => ?_⟩
  refine ⟨by omega, by omega, by omega, fun bc => ?_⟩
  rw [show zerosL n [Value.int IntKind.i64 0] = ints (List.replicate n 0) from zeros_cat i1 0 _, show zerosL n [Value.bool false] = bools (List.replicate n false) from zeros_cat b1 false _]
  refine loop_constH [HO.row (.slice (some ⟨bo, 0, none⟩) n n) 3 1 (ints (List.replicate n 0)), HO.row (.slice (some ⟨bc, 0, none⟩) n n) 4 1 (bools (List.replicate n false))] (HImp.swap _ _ _ _) [(11, 11), (23, 31)] (fun q : Nat × List Int => [(11, I q.1)])
    (fun q H1 => q.1 ≤ n ∧ isG q.2 n (fun u => if u < q.1 then -1 else 0) ∧ H1 = [HO.row (.slice (some ⟨bo, 0, none⟩) n n) 3 1 (ints q.2), HO.row (.slice (some ⟨bc, 0, none⟩) n n) 4 1 (bools (List.replicate n false))]) (fun q => n - q.1) (0, List.replicate n 0) ?_ ⟨Nat.zero_le _, (isG.rep n 0).congr fun u _ => (if_neg (by simp)).symm, rfl⟩ ?_
  · simp (config := { maxSteps := 4000000 }) only [↓sx0, ↓sx1, ↓sx2, ↓sx3, ↓sx4, ↓sx5, ↓sx6, sx0, sx1, sx2, sx3, sx4, sx5, sx6, tf65, ev3_hold, sxo, sxc, sxp, sxq, sxr, sxs, sxl, sxm, Int.reduceBEq, Int.reduceBNe, Int.reduceLT, Int.reduceLE, Int.reduceEq, Int.reduceGT, Int.reduceGE, Int.reduceToNat, ↓reduceIte, List.reduceReplicate, Nat.reduceAdd, Nat.reduceSub, Nat.reduceMul, Nat.reduceLT, Nat.reduceLeDiff, Nat.reduceBEq, Nat.reduceEqDiff]
    try simp
  rintro ⟨x, X⟩ H1 g1 hinv
  simp only [] at hinv
  obtain ⟨hx, hX, rfl⟩ := hinv
  have hXl := hX.1
  by_cases hxn : x = n
  case neg =>
    have e7 : ((x : Int) < (n : Int)) = True := eq_true (by omega)
    have e8 : wr (x + 1) = ((x + 1 : Nat) : Int) := (wrap_id (by omega)).trans (by omega)
    refine ⟨?_⟩
    simp (config := { maxSteps := 4000000 }) only [↓sx0, ↓sx1, ↓sx2, ↓sx3, ↓sx4, ↓sx5, ↓sx6, sx0, sx1, sx2, sx3, sx4, sx5, sx6, tf65, ev3_hold, sxo, sxc, sxp, sxq, sxr, sxs, sxl, sxm, Int.reduceBEq, Int.reduceBNe, Int.reduceLT, Int.reduceLE, Int.reduceEq, Int.reduceGT, Int.reduceGE, Int.reduceToNat, ↓reduceIte, List.reduceReplicate, Nat.reduceAdd, Nat.reduceSub, Nat.reduceMul, Nat.reduceLT, Nat.reduceLeDiff, Nat.reduceBEq, Nat.reduceEqDiff, e7]
    refine ⟨by omega, _, rfl, ?_⟩
    refine wr_at (A := []) (f := i1) (u := -1) rfl i1_len (by omega) (by omega) ?_
    simp (config := { maxSteps := 4000000 }) only [↓sx0, ↓sx1, ↓sx2, ↓sx3, ↓sx4, ↓sx5, ↓sx6, sx0, sx1, sx2, sx3, sx4, sx5, sx6, tf65, ev3_hold, sxo, sxc, sxp, sxq, sxr, sxs, sxl, sxm, Int.reduceBEq, Int.reduceBNe, Int.reduceLT, Int.reduceLE, Int.reduceEq, Int.reduceGT, Int.reduceGE, Int.reduceToNat, ↓reduceIte, List.reduceReplicate, Nat.reduceAdd, Nat.reduceSub, Nat.reduceMul, Nat.reduceLT, Nat.reduceLeDiff, Nat.reduceBEq, Nat.reduceEqDiff, e8]
    have hstep : isG (X.set x (-1)) n (fun u => if u < x + 1 then -1 else 0) := hX.set (show x < n by omega) (by rw [if_pos (by omega)]) fun u _ hne => by
      by_cases h : u < x
      · rw [if_pos h, if_pos (by omega)]
      · rw [if_neg h, if_neg (by omega)]
    exact ⟨(x + 1, X.set x (-1)), _, rfl, HImp.refl _ _, ⟨by simp only []; omega, hstep, rfl⟩, by simp only []; omega⟩
  have e7 : ((x : Int) < (n : Int)) = False := eq_false (by omega)
  have hX0 : isG X n (outV c b k t 0) := hX.congr fun u hu => by rw [if_pos (by omega)]; rfl
  refine ⟨?_⟩
  simp (config := { maxSteps := 4000000 }) only [↓sx0, ↓sx1, ↓sx2, ↓sx3, ↓sx4, ↓sx5, ↓sx6, sx0, sx1, sx2, sx3, sx4, sx5, sx6, tf65, ev3_hold, sxo, sxc, sxp, sxq, sxr, sxs, sxl, sxm, Int.reduceBEq, Int.reduceBNe, Int.reduceLT, Int.reduceLE, Int.reduceEq, Int.reduceGT, Int.reduceGE, Int.reduceToNat, ↓reduceIte, List.reduceReplicate, Nat.reduceAdd, Nat.reduceSub, Nat.reduceMul, Nat.reduceLT, Nat.reduceLeDiff, Nat.reduceBEq, Nat.reduceEqDiff, e7]
  refine loop_constH _ (HImp.refl _ _) [(10, 10), (12, 16), (33, 126)] (fun q : Nat × Addr => [(10, .slice (some q.2) n n), (12, I ((t + q.1 : Nat) : Int))])
    (fun q H1 => t + q.1 ≤ c.tide.length ∧ (RD = false → q.1 = 0) ∧ ∃ X Y, isG X n (outV c b k t q.1) ∧ isF Y n (canP c b k t q.1) ∧ H1 = [HO.row (.slice (some ⟨bo, 0, none⟩) n n) 3 1 (ints X), HO.row (.slice (some q.2) n n) 4 1 (bools Y)]) (fun q => c.tide.length - q.1) (0, ⟨bc, 0, none⟩) ?_ ⟨by simpa using Nat.le_of_lt ht, fun _ => rfl, _, _, hX0, (isF.rep n).congr fun u _ => rfl, rfl⟩ ?_
  · simp (config := { maxSteps := 4000000 }) only [↓sx0, ↓sx1, ↓sx2, ↓sx3, ↓sx4, ↓sx5, ↓sx6, sx0, sx1, sx2, sx3, sx4, sx5, sx6, tf65, ev3_hold, sxo, sxc, sxp, sxq, sxr, sxs, sxl, sxm, Int.reduceBEq, Int.reduceBNe, Int.reduceLT, Int.reduceLE, Int.reduceEq, Int.reduceGT, Int.reduceGE, Int.reduceToNat, ↓reduceIte, List.reduceReplicate, Nat.reduceAdd, Nat.reduceSub, Nat.reduceMul, Nat.reduceLT, Nat.reduceLeDiff, Nat.reduceBEq, Nat.reduceEqDiff]
    try simp
  rintro ⟨i, a⟩ H2 g2 hinv2
  simp only [] at hinv2
  obtain ⟨hi, hi0, X1, Y1, hX1, hY1, rfl⟩ := hinv2
  have hX1l := hX1.1
  have hY1l := hY1.1
  by_cases hti : t + i = c.tide.length
  · have e10 : (((t + i : Nat) : Int) < (c.tide.length : Int)) = False := eq_false (by omega)
    cases RD with
    | false => exact absurd (hi0 rfl) (by omega)
    | true =>
      have hXe := hX1.eq
      rw [show i = c.tide.length - t by omega] at hXe
      refine ⟨?_⟩
      simp (config := { maxSteps := 4000000 }) only [↓sx0, ↓sx1, ↓sx2, ↓sx3, ↓sx4, ↓sx5, ↓sx6, sx0, sx1, sx2, sx3, sx4, sx5, sx6, tf65, ev3_hold, sxo, sxc, sxp, sxq, sxr, sxs, sxl, sxm, Int.reduceBEq, Int.reduceBNe, Int.reduceLT, Int.reduceLE, Int.reduceEq, Int.reduceGT, Int.reduceGE, Int.reduceToNat, ↓reduceIte, List.reduceReplicate, Nat.reduceAdd, Nat.reduceSub, Nat.reduceMul, Nat.reduceLT, Nat.reduceLeDiff, Nat.reduceBEq, Nat.reduceEqDiff, e10]
      rw [hXe]
      exact Got.row (by rw [List.length_map, List.length_range]) List.mem_cons_self (fun h => by cases h)
  have e10 : (((t + i : Nat) : Int) < (c.tide.length : Int)) = True := eq_true (by omega)
  cases RD with
  | false =>
    have hii := hi0 rfl
    subst hii
    have hXe : X1 = List.replicate n (-1) := by
      rw [hX1.eq]
      refine List.ext_getElem? fun j => ?_
      rw [List.getElem?_map, List.getElem?_replicate]
      by_cases hj : j < n
      · rw [List.getElem?_range hj, if_pos hj]; rfl
      · rw [if_neg hj, List.getElem?_eq_none (by rw [List.length_range]; omega)]; rfl
    refine ⟨?_⟩
    simp (config := { maxSteps := 4000000 }) only [↓sx0, ↓sx1, ↓sx2, ↓sx3, ↓sx4, ↓sx5, ↓sx6, sx0, sx1, sx2, sx3, sx4, sx5, sx6, tf65, ev3_hold, sxo, sxc, sxp, sxq, sxr, sxs, sxl, sxm, Int.reduceBEq, Int.reduceBNe, Int.reduceLT, Int.reduceLE, Int.reduceEq, Int.reduceGT, Int.reduceGE, Int.reduceToNat, ↓reduceIte, List.reduceReplicate, Nat.reduceAdd, Nat.reduceSub, Nat.reduceMul, Nat.reduceLT, Nat.reduceLeDiff, Nat.reduceBEq, Nat.reduceEqDiff, e10, dn]
    refine CallOb.pureH (fun w' hp => hrd _ w' hp) ?_
    rintro q N rfl
    refine ⟨?_⟩
    simp (config := { maxSteps := 4000000 }) only [↓sx0, ↓sx1, ↓sx2, ↓sx3, ↓sx4, ↓sx5, ↓sx6, sx0, sx1, sx2, sx3, sx4, sx5, sx6, tf65, ev3_hold, sxo, sxc, sxp, sxq, sxr, sxs, sxl, sxm, Int.reduceBEq, Int.reduceBNe, Int.reduceLT, Int.reduceLE, Int.reduceEq, Int.reduceGT, Int.reduceGE, Int.reduceToNat, ↓reduceIte, List.reduceReplicate, Nat.reduceAdd, Nat.reduceSub, Nat.reduceMul, Nat.reduceLT, Nat.reduceLeDiff, Nat.reduceBEq, Nat.reduceEqDiff]
    rw [hXe]
    exact Got.row (by simp) (List.mem_append_right _ List.mem_cons_self) (fun h => by cases h)
  | true =>
  have hpt := hpt rfl i
  have hst := fun (x : Nat) (hx : x < n) => hst x (t + i) hx (by omega)
  have e9 : wr (((t + i : Nat) : Int) + 1) = ((t + (i + 1) : Nat) : Int) := (wrap_id (by omega)).trans (by omega)
  refine ⟨?_⟩
  simp (config := { maxSteps := 4000000 }) only [↓sx0, ↓sx1, ↓sx2, ↓sx3, ↓sx4, ↓sx5, ↓sx6, sx0, sx1, sx2, sx3, sx4, sx5, sx6, tf65, ev3_hold, sxo, sxc, sxp, sxq, sxr, sxs, sxl, sxm, Int.reduceBEq, Int.reduceBNe, Int.reduceLT, Int.reduceLE, Int.reduceEq, Int.reduceGT, Int.reduceGE, Int.reduceToNat, ↓reduceIte, List.reduceReplicate, Nat.reduceAdd, Nat.reduceSub, Nat.reduceMul, Nat.reduceLT, Nat.reduceLeDiff, Nat.reduceBEq, Nat.reduceEqDiff, e10, dn]
  refine CallOb.pureH (fun w' hp => hrd _ w' hp) ?_
  rintro q N rfl
  refine ⟨?_⟩
  simp (config := { maxSteps := 4000000 }) only [↓sx0, ↓sx1, ↓sx2, ↓sx3, ↓sx4, ↓sx5, ↓sx6, sx0, sx1, sx2, sx3, sx4, sx5, sx6, tf65, ev3_hold, sxo, sxc, sxp, sxq, sxr, sxs, sxl, sxm, Int.reduceBEq, Int.reduceBNe, Int.reduceLT, Int.reduceLE, Int.reduceEq, Int.reduceGT, Int.reduceGE, Int.reduceToNat, ↓reduceIte, List.reduceReplicate, Nat.reduceAdd, Nat.reduceSub, Nat.reduceMul, Nat.reduceLT, Nat.reduceLeDiff, Nat.reduceBEq, Nat.reduceEqDiff]
  refine ⟨by omega, by omega, by omega, fun bn => ?_⟩
  rw [show zerosL n [Value.bool false] = bools (List.replicate n false) from zeros_cat b1 false _]
  obtain ⟨RC, hRC⟩ : ∃ RC, HO.row (.slice (some a) n n) 4 1 (bools Y1) = RC := ⟨_, rfl⟩
  have hrC := fun (H : List HO) (hm : RC ∈ H) => row_rdv (w0 := ⟨w, fun _ => False⟩) (H := H) (E := 4) (v := .slice (some a) n n) (sz := 1) (xs := bools Y1) (by rw [hRC]; exact hm) ⟨_, _, _, rfl, by rw [cat_len b1_len, hY1l], fun h => by cases h⟩
  refine loop_constH (HO.row (.slice (some ⟨bn, 0, none⟩) n n) 4 1 (bools (List.replicate n false)) :: [HO.row (.slice (some ⟨bo, 0, none⟩) n n) 3 1 (ints X1), RC]) (by rw [hRC]; exact HImp.sub (by simp)) [(14, 16), (50, 125)] (fun q : Nat × List Bool × List Int => [(14, I q.1)])
    (fun q H1 => q.1 ≤ n ∧ isF q.2.1 n (fun u => if u < q.1 then nowB c b k t i u else false) ∧ isG q.2.2 n (fun u => if u < q.1 then outV c b k t (i + 1) u else outV c b k t i u) ∧ H1 = HO.row (.slice (some ⟨bn, 0, none⟩) n n) 4 1 (bools q.2.1) :: [HO.row (.slice (some ⟨bo, 0, none⟩) n n) 3 1 (ints q.2.2), RC]) (fun q => n - q.1) (0, List.replicate n false, X1) ?_ ⟨Nat.zero_le _, (isF.rep n).congr fun u _ => (if_neg (by simp)).symm, hX1.congr fun u _ => (if_neg (by simp)).symm, rfl⟩ ?_
  · simp (config := { maxSteps := 4000000 }) only [↓sx0, ↓sx1, ↓sx2, ↓sx3, ↓sx4, ↓sx5, ↓sx6, sx0, sx1, sx2, sx3, sx4, sx5, sx6, tf65, ev3_hold, sxo, sxc, sxp, sxq, sxr, sxs, sxl, sxm, Int.reduceBEq, Int.reduceBNe, Int.reduceLT, Int.reduceLE, Int.reduceEq, Int.reduceGT, Int.reduceGE, Int.reduceToNat, ↓reduceIte, List.reduceReplicate, Nat.reduceAdd, Nat.reduceSub, Nat.reduceMul, Nat.reduceLT, Nat.reduceLeDiff, Nat.reduceBEq, Nat.reduceEqDiff]
    try simp
  rintro ⟨x, Y2, X2⟩ H3 g3 hinv3
  simp only [] at hinv3
  obtain ⟨hx3, hY2, hX2, rfl⟩ := hinv3
  have hY2l := hY2.1
  have hX2l := hX2.1
  by_cases hxn3 : x = n
  · have e7 : ((x : Int) < (n : Int)) = False := eq_false (by omega)
    refine ⟨?_⟩
    simp (config := { maxSteps := 4000000 }) only [↓sx0, ↓sx1, ↓sx2, ↓sx3, ↓sx4, ↓sx5, ↓sx6, sx0, sx1, sx2, sx3, sx4, sx5, sx6, tf65, ev3_hold, sxo, sxc, sxp, sxq, sxr, sxs, sxl, sxm, Int.reduceBEq, Int.reduceBNe, Int.reduceLT, Int.reduceLE, Int.reduceEq, Int.reduceGT, Int.reduceGE, Int.reduceToNat, ↓reduceIte, List.reduceReplicate, Nat.reduceAdd, Nat.reduceSub, Nat.reduceMul, Nat.reduceLT, Nat.reduceLeDiff, Nat.reduceBEq, Nat.reduceEqDiff, e7, e9]
    exact ⟨(i + 1, ⟨bn, 0, none⟩), _, ⟨rfl, rfl⟩, (HImp.swap _ _ _ _).trans (HImp.sub (((List.nil_sublist _).cons_cons _).cons_cons _)), ⟨by simp only []; omega, X2, Y2, hX2.congr fun u hu => by rw [if_pos (by omega)], hY2.congr fun u hu => by rw [if_pos (by omega)]; rfl, rfl⟩, by simp only []; omega⟩
  have e7 : ((x : Int) < (n : Int)) = True := eq_true (by omega)
  have e8 : wr (x + 1) = ((x + 1 : Nat) : Int) := (wrap_id (by omega)).trans (by omega)
  have hxl : x < n := by omega
  obtain ⟨L, hL⟩ : ∃ L, nbL c.W c.H x = L := ⟨_, rfl⟩
  have hLb : L.length ≤ 7 := by rw [← hL]; exact nbL_len _ _ _
  have hLin : ∀ y ∈ L, y < n := fun y hy => by rw [← hn, hlen]; exact nbL_lt (by rw [← hlen, hn]; exact hxl) y (by rw [hL]; exact hy)
  have hnx := hne x hxl
  have hptx := hpt x hxl
  rw [hL] at hnx hptx
  obtain ⟨pt, hptd⟩ : ∃ pt : Nat → Bool, ∀ j, ptB c b k t i x j = pt j := ⟨_, fun _ => rfl⟩
  rw [hptd] at hptx
  have hpt0 : pt 0 = false := by rw [← hptd]; unfold ptB; cases i <;> rfl
  have hpts : ∀ j y, L[j]? = some y → pt (j + 1) = (pt j || (if i = 0 then decide (x = k) else canP c b k t i y)) := fun j y hy => by
    rw [← hptd, ← hptd]
    cases i with
    | zero =>
      unfold ptB
      rw [if_pos rfl]
      cases hxk : decide (x = k) <;> simp
    | succ i =>
      unfold ptB
      rw [if_neg (by omega), hL]
      simp only []
      rw [List.take_succ, hy, List.any_append]
      simp [canP]
  refine ⟨?_⟩
  simp (config := { maxSteps := 4000000 }) only [↓sx0, ↓sx1, ↓sx2, ↓sx3, ↓sx4, ↓sx5, ↓sx6, sx0, sx1, sx2, sx3, sx4, sx5, sx6, tf65, ev3_hold, sxo, sxc, sxp, sxq, sxr, sxs, sxl, sxm, Int.reduceBEq, Int.reduceBNe, Int.reduceLT, Int.reduceLE, Int.reduceEq, Int.reduceGT, Int.reduceGE, Int.reduceToNat, ↓reduceIte, List.reduceReplicate, Nat.reduceAdd, Nat.reduceSub, Nat.reduceMul, Nat.reduceLT, Nat.reduceLeDiff, Nat.reduceBEq, Nat.reduceEqDiff, e7, dn]
  refine CallOb.pureH (fun w' hp => hnx _ w' hp) ?_
  rintro q N2 hG
  obtain ⟨aq, cq, rfl⟩ := hG.shape
  have hll : (nts L).length = L.length := by unfold nts; rw [List.length_map]
  rw [hll] at hG ⊢
  have hrN := fun (H : List HO) (hm : ∀ h ∈ N2, h ∈ H) => hG.rdv (w0 := ⟨w, fun _ => False⟩) (H := H) i1_len hm
  have hLn : ∀ (j y : Nat), L[j]? = some y → (nts L)[j]? = some (y : Int) := fun j y h => by unfold nts; rw [List.getElem?_map, h]; rfl
  refine ⟨?_⟩
  simp (config := { maxSteps := 4000000 }) only [↓sx0, ↓sx1, ↓sx2, ↓sx3, ↓sx4, ↓sx5, ↓sx6, sx0, sx1, sx2, sx3, sx4, sx5, sx6, tf65, ev3_hold, sxo, sxc, sxp, sxq, sxr, sxs, sxl, sxm, Int.reduceBEq, Int.reduceBNe, Int.reduceLT, Int.reduceLE, Int.reduceEq, Int.reduceGT, Int.reduceGE, Int.reduceToNat, ↓reduceIte, List.reduceReplicate, Nat.reduceAdd, Nat.reduceSub, Nat.reduceMul, Nat.reduceLT, Nat.reduceLeDiff, Nat.reduceBEq, Nat.reduceEqDiff]
  refine loop_constH (HO.row (.slice (some ⟨bn, 0, none⟩) n n) 4 1 (bools Y2) :: [HO.row (.slice (some ⟨bo, 0, none⟩) n n) 3 1 (ints X2), RC] ++ N2) (HImp.perm List.perm_append_comm) [(16, 16), (59, 96)] (fun q : Nat × List Bool => [(16, I q.1)])
    (fun q H1 => q.1 ≤ L.length ∧ isF q.2 n (fun u => if u < x then nowB c b k t i u else if u = x then pt q.1 else false) ∧ H1 = HO.row (.slice (some ⟨bn, 0, none⟩) n n) 4 1 (bools q.2) :: [HO.row (.slice (some ⟨bo, 0, none⟩) n n) 3 1 (ints X2), RC] ++ N2) (fun q => L.length - q.1) (0, Y2) ?_ ⟨Nat.zero_le _, hY2.congr fun u _ => by rw [hpt0]; simp, rfl⟩ ?_
  · simp (config := { maxSteps := 4000000 }) only [↓sx0, ↓sx1, ↓sx2, ↓sx3, ↓sx4, ↓sx5, ↓sx6, sx0, sx1, sx2, sx3, sx4, sx5, sx6, tf65, ev3_hold, sxo, sxc, sxp, sxq, sxr, sxs, sxl, sxm, Int.reduceBEq, Int.reduceBNe, Int.reduceLT, Int.reduceLE, Int.reduceEq, Int.reduceGT, Int.reduceGE, Int.reduceToNat, ↓reduceIte, List.reduceReplicate, Nat.reduceAdd, Nat.reduceSub, Nat.reduceMul, Nat.reduceLT, Nat.reduceLeDiff, Nat.reduceBEq, Nat.reduceEqDiff]
    try simp
  rintro ⟨j, Y3⟩ H4 g4 hinv4
  simp only [] at hinv4
  obtain ⟨hj, hY3, rfl⟩ := hinv4
  have hY3l := hY3.1
  have hYx : Y3[x]? = some (pt j) := (getD_at (show x < Y3.length by omega) false).trans (congrArg some ((hY3.2 x hxl).trans ((if_neg (by omega)).trans (if_pos rfl))))
  have hrw := row_rdv (w0 := ⟨w, fun _ => False⟩) (H := HO.row (.slice (some ⟨bn, 0, none⟩) n n) 4 1 (bools Y3) :: [HO.row (.slice (some ⟨bo, 0, none⟩) n n) 3 1 (ints X2), RC] ++ N2) (E := 4) (v := .slice (some ⟨bn, 0, none⟩) n n) (sz := 1) (xs := bools Y3) List.mem_cons_self ⟨_, _, _, rfl, by rw [cat_len b1_len, hY3l], fun h => by cases h⟩
  by_cases hjl : j = L.length
  case neg =>
    have f7 : ((j : Int) < (L.length : Int)) = True := eq_true (by omega)
    have f8 : wr (j + 1) = ((j + 1 : Nat) : Int) := (wrap_id (by omega)).trans (by omega)
    obtain ⟨y, hy⟩ : ∃ y, L[j]? = some y := ⟨_, List.getElem?_eq_getElem (by omega)⟩
    have hps := hpts j y hy
    have hset : ∀ q, q = pt (j + 1) → isF (Y3.set x q) n (fun u => if u < x then nowB c b k t i u else if u = x then pt (j + 1) else false) := fun q hq => hY3.set hxl (by rw [if_neg (by omega), if_pos rfl]; exact hq) (fun u _ hne => by rw [if_neg hne, if_neg hne])
    cases hpj : pt j with
    | true =>
      rw [hpj] at hYx hps
      rw [Bool.true_or] at hps
      refine ⟨?_⟩
      simp (config := { maxSteps := 4000000 }) only [↓sx0, ↓sx1, ↓sx2, ↓sx3, ↓sx4, ↓sx5, ↓sx6, sx0, sx1, sx2, sx3, sx4, sx5, sx6, tf65, ev3_hold, sxo, sxc, sxp, sxq, sxr, sxs, sxl, sxm, Int.reduceBEq, Int.reduceBNe, Int.reduceLT, Int.reduceLE, Int.reduceEq, Int.reduceGT, Int.reduceGE, Int.reduceToNat, ↓reduceIte, List.reduceReplicate, Nat.reduceAdd, Nat.reduceSub, Nat.reduceMul, Nat.reduceLT, Nat.reduceLeDiff, Nat.reduceBEq, Nat.reduceEqDiff, f7]
      refine at_1 hrw b1_len hYx rfl fun ad1 => ?_
      simp (config := { maxSteps := 4000000 }) only [↓sx0, ↓sx1, ↓sx2, ↓sx3, ↓sx4, ↓sx5, ↓sx6, sx0, sx1, sx2, sx3, sx4, sx5, sx6, tf65, ev3_hold, sxo, sxc, sxp, sxq, sxr, sxs, sxl, sxm, Int.reduceBEq, Int.reduceBNe, Int.reduceLT, Int.reduceLE, Int.reduceEq, Int.reduceGT, Int.reduceGE, Int.reduceToNat, ↓reduceIte, List.reduceReplicate, Nat.reduceAdd, Nat.reduceSub, Nat.reduceMul, Nat.reduceLT, Nat.reduceLeDiff, Nat.reduceBEq, Nat.reduceEqDiff]
      refine ⟨by omega, by omega, _, rfl, ?_⟩
      refine wr_at (A := []) (f := b1) (u := true) rfl b1_len (by omega) (by omega) ?_
      simp (config := { maxSteps := 4000000 }) only [↓sx0, ↓sx1, ↓sx2, ↓sx3, ↓sx4, ↓sx5, ↓sx6, sx0, sx1, sx2, sx3, sx4, sx5, sx6, tf65, ev3_hold, sxo, sxc, sxp, sxq, sxr, sxs, sxl, sxm, Int.reduceBEq, Int.reduceBNe, Int.reduceLT, Int.reduceLE, Int.reduceEq, Int.reduceGT, Int.reduceGE, Int.reduceToNat, ↓reduceIte, List.reduceReplicate, Nat.reduceAdd, Nat.reduceSub, Nat.reduceMul, Nat.reduceLT, Nat.reduceLeDiff, Nat.reduceBEq, Nat.reduceEqDiff, f8]
      exact ⟨(j + 1, Y3.set x true), _, rfl, HImp.refl _ _, ⟨by simp only []; omega, hset _ hps.symm, rfl⟩, by simp only []; omega⟩
    | false =>
      rw [hpj] at hYx hps
      rw [Bool.false_or] at hps
      by_cases hi00 : i = 0
      · have f1 : (((t + i : Nat) : Int) = (t : Int)) = True := eq_true (by omega)
        have f2 : (((t + i : Nat) : Int) > (t : Int)) = False := eq_false (by omega)
        rw [if_pos hi00] at hps
        by_cases hxk : x = k
        · have f3 : ((x : Int) = (k : Int)) = True := eq_true (by omega)
          rw [decide_eq_true hxk] at hps
          refine ⟨?_⟩
          simp (config := { maxSteps := 4000000 }) only [↓sx0, ↓sx1, ↓sx2, ↓sx3, ↓sx4, ↓sx5, ↓sx6, sx0, sx1, sx2, sx3, sx4, sx5, sx6, tf65, ev3_hold, sxo, sxc, sxp, sxq, sxr, sxs, sxl, sxm, Int.reduceBEq, Int.reduceBNe, Int.reduceLT, Int.reduceLE, Int.reduceEq, Int.reduceGT, Int.reduceGE, Int.reduceToNat, ↓reduceIte, List.reduceReplicate, Nat.reduceAdd, Nat.reduceSub, Nat.reduceMul, Nat.reduceLT, Nat.reduceLeDiff, Nat.reduceBEq, Nat.reduceEqDiff, f7]
          refine at_1 hrw b1_len hYx rfl fun ad1 => ?_
          simp (config := { maxSteps := 4000000 }) only [↓sx0, ↓sx1, ↓sx2, ↓sx3, ↓sx4, ↓sx5, ↓sx6, sx0, sx1, sx2, sx3, sx4, sx5, sx6, tf65, ev3_hold, sxo, sxc, sxp, sxq, sxr, sxs, sxl, sxm, Int.reduceBEq, Int.reduceBNe, Int.reduceLT, Int.reduceLE, Int.reduceEq, Int.reduceGT, Int.reduceGE, Int.reduceToNat, ↓reduceIte, List.reduceReplicate, Nat.reduceAdd, Nat.reduceSub, Nat.reduceMul, Nat.reduceLT, Nat.reduceLeDiff, Nat.reduceBEq, Nat.reduceEqDiff, f1, f3]
          refine ⟨by omega, by omega, _, rfl, ?_⟩
          refine wr_at (A := []) (f := b1) (u := true) rfl b1_len (by omega) (by omega) ?_
          simp (config := { maxSteps := 4000000 }) only [↓sx0, ↓sx1, ↓sx2, ↓sx3, ↓sx4, ↓sx5, ↓sx6, sx0, sx1, sx2, sx3, sx4, sx5, sx6, tf65, ev3_hold, sxo, sxc, sxp, sxq, sxr, sxs, sxl, sxm, Int.reduceBEq, Int.reduceBNe, Int.reduceLT, Int.reduceLE, Int.reduceEq, Int.reduceGT, Int.reduceGE, Int.reduceToNat, ↓reduceIte, List.reduceReplicate, Nat.reduceAdd, Nat.reduceSub, Nat.reduceMul, Nat.reduceLT, Nat.reduceLeDiff, Nat.reduceBEq, Nat.reduceEqDiff, f8]
          exact ⟨(j + 1, Y3.set x true), _, rfl, HImp.refl _ _, ⟨by simp only []; omega, hset _ hps.symm, rfl⟩, by simp only []; omega⟩
        · have f3 : ((x : Int) = (k : Int)) = False := eq_false (by omega)
          rw [decide_eq_false hxk] at hps
          refine ⟨?_⟩
          simp (config := { maxSteps := 4000000 }) only [↓sx0, ↓sx1, ↓sx2, ↓sx3, ↓sx4, ↓sx5, ↓sx6, sx0, sx1, sx2, sx3, sx4, sx5, sx6, tf65, ev3_hold, sxo, sxc, sxp, sxq, sxr, sxs, sxl, sxm, Int.reduceBEq, Int.reduceBNe, Int.reduceLT, Int.reduceLE, Int.reduceEq, Int.reduceGT, Int.reduceGE, Int.reduceToNat, ↓reduceIte, List.reduceReplicate, Nat.reduceAdd, Nat.reduceSub, Nat.reduceMul, Nat.reduceLT, Nat.reduceLeDiff, Nat.reduceBEq, Nat.reduceEqDiff, f7]
          refine at_1 hrw b1_len hYx rfl fun ad1 => ?_
          simp (config := { maxSteps := 4000000 }) only [↓sx0, ↓sx1, ↓sx2, ↓sx3, ↓sx4, ↓sx5, ↓sx6, sx0, sx1, sx2, sx3, sx4, sx5, sx6, tf65, ev3_hold, sxo, sxc, sxp, sxq, sxr, sxs, sxl, sxm, Int.reduceBEq, Int.reduceBNe, Int.reduceLT, Int.reduceLE, Int.reduceEq, Int.reduceGT, Int.reduceGE, Int.reduceToNat, ↓reduceIte, List.reduceReplicate, Nat.reduceAdd, Nat.reduceSub, Nat.reduceMul, Nat.reduceLT, Nat.reduceLeDiff, Nat.reduceBEq, Nat.reduceEqDiff, f1, f2, f3]
          refine ⟨by omega, by omega, _, rfl, ?_⟩
          refine wr_at (A := []) (f := b1) (u := false) rfl b1_len (by omega) (by omega) ?_
          simp (config := { maxSteps := 4000000 }) only [↓sx0, ↓sx1, ↓sx2, ↓sx3, ↓sx4, ↓sx5, ↓sx6, sx0, sx1, sx2, sx3, sx4, sx5, sx6, tf65, ev3_hold, sxo, sxc, sxp, sxq, sxr, sxs, sxl, sxm, Int.reduceBEq, Int.reduceBNe, Int.reduceLT, Int.reduceLE, Int.reduceEq, Int.reduceGT, Int.reduceGE, Int.reduceToNat, ↓reduceIte, List.reduceReplicate, Nat.reduceAdd, Nat.reduceSub, Nat.reduceMul, Nat.reduceLT, Nat.reduceLeDiff, Nat.reduceBEq, Nat.reduceEqDiff, f8]
          exact ⟨(j + 1, Y3.set x false), _, rfl, HImp.refl _ _, ⟨by simp only []; omega, hset _ hps.symm, rfl⟩, by simp only []; omega⟩
      · have f1 : (((t + i : Nat) : Int) = (t : Int)) = False := eq_false (by omega)
        have f2 : (((t + i : Nat) : Int) > (t : Int)) = True := eq_true (by omega)
        rw [if_neg hi00] at hps
        have hyn := hLin y (List.mem_of_getElem? hy)
        have hYy : Y1[y]? = some (canP c b k t i y) := by rw [getD_at (show y < Y1.length by omega) false, hY1.2 y hyn]
        obtain ⟨z, hz⟩ : ∃ z, canP c b k t i y = z := ⟨_, rfl⟩
        rw [hz] at hYy hps
        refine ⟨?_⟩
        simp (config := { maxSteps := 4000000 }) only [↓sx0, ↓sx1, ↓sx2, ↓sx3, ↓sx4, ↓sx5, ↓sx6, sx0, sx1, sx2, sx3, sx4, sx5, sx6, tf65, ev3_hold, sxo, sxc, sxp, sxq, sxr, sxs, sxl, sxm, Int.reduceBEq, Int.reduceBNe, Int.reduceLT, Int.reduceLE, Int.reduceEq, Int.reduceGT, Int.reduceGE, Int.reduceToNat, ↓reduceIte, List.reduceReplicate, Nat.reduceAdd, Nat.reduceSub, Nat.reduceMul, Nat.reduceLT, Nat.reduceLeDiff, Nat.reduceBEq, Nat.reduceEqDiff, f7]
        refine at_1 hrw b1_len hYx rfl fun ad1 => ?_
        simp (config := { maxSteps := 4000000 }) only [↓sx0, ↓sx1, ↓sx2, ↓sx3, ↓sx4, ↓sx5, ↓sx6, sx0, sx1, sx2, sx3, sx4, sx5, sx6, tf65, ev3_hold, sxo, sxc, sxp, sxq, sxr, sxs, sxl, sxm, Int.reduceBEq, Int.reduceBNe, Int.reduceLT, Int.reduceLE, Int.reduceEq, Int.reduceGT, Int.reduceGE, Int.reduceToNat, ↓reduceIte, List.reduceReplicate, Nat.reduceAdd, Nat.reduceSub, Nat.reduceMul, Nat.reduceLT, Nat.reduceLeDiff, Nat.reduceBEq, Nat.reduceEqDiff, f1, f2]
        refine at_1 (hrN _ (fun h hh => by simp [hh])) i1_len (hLn j y hy) rfl fun ad2 => ?_
        simp (config := { maxSteps := 4000000 }) only [↓sx0, ↓sx1, ↓sx2, ↓sx3, ↓sx4, ↓sx5, ↓sx6, sx0, sx1, sx2, sx3, sx4, sx5, sx6, tf65, ev3_hold, sxo, sxc, sxp, sxq, sxr, sxs, sxl, sxm, Int.reduceBEq, Int.reduceBNe, Int.reduceLT, Int.reduceLE, Int.reduceEq, Int.reduceGT, Int.reduceGE, Int.reduceToNat, ↓reduceIte, List.reduceReplicate, Nat.reduceAdd, Nat.reduceSub, Nat.reduceMul, Nat.reduceLT, Nat.reduceLeDiff, Nat.reduceBEq, Nat.reduceEqDiff]
        refine at_1 (hrC _ (by simp)) b1_len hYy rfl fun ad3 => ?_
        simp (config := { maxSteps := 4000000 }) only [↓sx0, ↓sx1, ↓sx2, ↓sx3, ↓sx4, ↓sx5, ↓sx6, sx0, sx1, sx2, sx3, sx4, sx5, sx6, tf65, ev3_hold, sxo, sxc, sxp, sxq, sxr, sxs, sxl, sxm, Int.reduceBEq, Int.reduceBNe, Int.reduceLT, Int.reduceLE, Int.reduceEq, Int.reduceGT, Int.reduceGE, Int.reduceToNat, ↓reduceIte, List.reduceReplicate, Nat.reduceAdd, Nat.reduceSub, Nat.reduceMul, Nat.reduceLT, Nat.reduceLeDiff, Nat.reduceBEq, Nat.reduceEqDiff]
        refine ⟨by omega, by omega, _, rfl, ?_⟩
        refine wr_at (A := []) (f := b1) (u := z) rfl b1_len (by omega) (by omega) ?_
        simp (config := { maxSteps := 4000000 }) only [↓sx0, ↓sx1, ↓sx2, ↓sx3, ↓sx4, ↓sx5, ↓sx6, sx0, sx1, sx2, sx3, sx4, sx5, sx6, tf65, ev3_hold, sxo, sxc, sxp, sxq, sxr, sxs, sxl, sxm, Int.reduceBEq, Int.reduceBNe, Int.reduceLT, Int.reduceLE, Int.reduceEq, Int.reduceGT, Int.reduceGE, Int.reduceToNat, ↓reduceIte, List.reduceReplicate, Nat.reduceAdd, Nat.reduceSub, Nat.reduceMul, Nat.reduceLT, Nat.reduceLeDiff, Nat.reduceBEq, Nat.reduceEqDiff, f8]
        exact ⟨(j + 1, Y3.set x z), _, rfl, HImp.refl _ _, ⟨by simp only []; omega, hset _ hps.symm, rfl⟩, by simp only []; omega⟩
  subst hjl
  have f7 : ((L.length : Int) < (L.length : Int)) = False := eq_false (by omega)
  have hstx := hst x hxl
  have hnow : isF (Y3.set x (nowB c b k t i x)) n (fun u => if u < x + 1 then nowB c b k t i u else false) := hY3.set hxl (by rw [if_pos (by omega)]) (fun u _ hne => by
    by_cases h : u < x
    · rw [if_pos h, if_pos (by omega)]
    · rw [if_neg h, if_neg hne, if_neg (by omega)])
  have hlt : ∀ u, u ≠ x → (if u < x then outV c b k t (i + 1) u else outV c b k t i u) = (if u < x + 1 then outV c b k t (i + 1) u else outV c b k t i u) := fun u hne => by
    by_cases h : u < x
    · rw [if_pos h, if_pos (by omega)]
    · rw [if_neg h, if_neg (by omega)]
  have hox : X2[x]? = some (outV c b k t i x) := (getD_at (show x < X2.length by omega) 0).trans (congrArg some ((hX2.2 x hxl).trans (if_neg (by omega))))
  have hrule : outV c b k t (i + 1) x = if outV c b k t i x < 0 ∧ nowB c b k t i x = true then ((t + i : Nat) : Int) else outV c b k t i x := rfl
  have hsame : ∀ (h : outV c b k t (i + 1) x = outV c b k t i x), isG X2 n (fun u => if u < x + 1 then outV c b k t (i + 1) u else outV c b k t i u) := fun h => hX2.congr fun u hu => by
    by_cases hux : u = x
    · subst hux
      rw [if_neg (by omega), if_pos (by omega), h]
    · exact hlt u hux
  have hnew : ∀ v, outV c b k t (i + 1) x = v → isG (X2.set x v) n (fun u => if u < x + 1 then outV c b k t (i + 1) u else outV c b k t i u) := fun v h => hX2.set hxl (by rw [if_pos (by omega), h]) (fun u _ hne => hlt u hne)
  obtain ⟨NW, hNW⟩ : ∃ NW, nowB c b k t i x = NW := ⟨_, rfl⟩
  obtain ⟨OV, hOV⟩ : ∃ OV, outV c b k t i x = OV := ⟨_, rfl⟩
  obtain ⟨CB, hCB⟩ : ∃ CB, canB c b (t + i) x = CB := ⟨_, rfl⟩
  rw [hNW] at hnow hrule hptx
  rw [hOV] at hox hrule hsame
  rw [hCB] at hstx hptx
  have hY4l : (Y3.set x NW).length = n := by rw [List.length_set]; exact hY3l
  have hYx4 : (Y3.set x NW)[x]? = some NW := by rw [List.getElem?_set]; simp [show x < Y3.length by omega]
  have hrw4 := fun (H : List HO) (hm : HO.row (.slice (some ⟨bn, 0, none⟩) n n) 4 1 (bools (Y3.set x NW)) ∈ H) => row_rdv (w0 := ⟨w, fun _ => False⟩) (H := H) (E := 4) (v := .slice (some ⟨bn, 0, none⟩) n n) (sz := 1) (xs := bools (Y3.set x NW)) hm ⟨_, _, _, rfl, by rw [cat_len b1_len, hY4l], fun h => by cases h⟩
  have hrX := fun (H : List HO) (hm : HO.row (.slice (some ⟨bo, 0, none⟩) n n) 3 1 (ints X2) ∈ H) => row_rdv (w0 := ⟨w, fun _ => False⟩) (H := H) (E := 3) (v := .slice (some ⟨bo, 0, none⟩) n n) (sz := 1) (xs := ints X2) hm ⟨_, _, _, rfl, by rw [cat_len i1_len, hX2l], fun h => by cases h⟩
  have hout : ∀ X', HImp ⟨w, fun _ => False⟩ (HO.row (.slice (some ⟨bn, 0, none⟩) n n) 4 1 (bools (Y3.set x NW)) :: HO.row (.slice (some ⟨bo, 0, none⟩) n n) 3 1 (ints X') :: RC :: N2) (HO.row (.slice (some ⟨bn, 0, none⟩) n n) 4 1 (bools (Y3.set x NW)) :: [HO.row (.slice (some ⟨bo, 0, none⟩) n n) 3 1 (ints X'), RC]) := fun X' => HImp.sub (((List.nil_sublist _).cons_cons _).cons_cons _ |>.cons_cons _)
  cases hpj : pt L.length with
  | false =>
    rw [hpj] at hYx hptx
    have hnf : NW = false := by rw [← hptx]; rfl
    subst hnf
    rw [if_neg (by simp)] at hrule
    refine ⟨?_⟩
    simp (config := { maxSteps := 4000000 }) only [↓sx0, ↓sx1, ↓sx2, ↓sx3, ↓sx4, ↓sx5, ↓sx6, sx0, sx1, sx2, sx3, sx4, sx5, sx6, tf65, ev3_hold, sxo, sxc, sxp, sxq, sxr, sxs, sxl, sxm, Int.reduceBEq, Int.reduceBNe, Int.reduceLT, Int.reduceLE, Int.reduceEq, Int.reduceGT, Int.reduceGE, Int.reduceToNat, ↓reduceIte, List.reduceReplicate, Nat.reduceAdd, Nat.reduceSub, Nat.reduceMul, Nat.reduceLT, Nat.reduceLeDiff, Nat.reduceBEq, Nat.reduceEqDiff, f7]
    refine at_1 hrw b1_len hYx rfl fun ad1 => ?_
    simp (config := { maxSteps := 4000000 }) only [↓sx0, ↓sx1, ↓sx2, ↓sx3, ↓sx4, ↓sx5, ↓sx6, sx0, sx1, sx2, sx3, sx4, sx5, sx6, tf65, ev3_hold, sxo, sxc, sxp, sxq, sxr, sxs, sxl, sxm, Int.reduceBEq, Int.reduceBNe, Int.reduceLT, Int.reduceLE, Int.reduceEq, Int.reduceGT, Int.reduceGE, Int.reduceToNat, ↓reduceIte, List.reduceReplicate, Nat.reduceAdd, Nat.reduceSub, Nat.reduceMul, Nat.reduceLT, Nat.reduceLeDiff, Nat.reduceBEq, Nat.reduceEqDiff]
    refine ⟨by omega, by omega, _, rfl, ?_⟩
    refine wr_at (A := []) (f := b1) (u := false) rfl b1_len (by omega) (by omega) ?_
    simp (config := { maxSteps := 4000000 }) only [↓sx0, ↓sx1, ↓sx2, ↓sx3, ↓sx4, ↓sx5, ↓sx6, sx0, sx1, sx2, sx3, sx4, sx5, sx6, tf65, ev3_hold, sxo, sxc, sxp, sxq, sxr, sxs, sxl, sxm, Int.reduceBEq, Int.reduceBNe, Int.reduceLT, Int.reduceLE, Int.reduceEq, Int.reduceGT, Int.reduceGE, Int.reduceToNat, ↓reduceIte, List.reduceReplicate, Nat.reduceAdd, Nat.reduceSub, Nat.reduceMul, Nat.reduceLT, Nat.reduceLeDiff, Nat.reduceBEq, Nat.reduceEqDiff]
    refine at_1 (hrw4 _ (by simp)) b1_len hYx4 rfl fun ad2 => ?_
    simp (config := { maxSteps := 4000000 }) only [↓sx0, ↓sx1, ↓sx2, ↓sx3, ↓sx4, ↓sx5, ↓sx6, sx0, sx1, sx2, sx3, sx4, sx5, sx6, tf65, ev3_hold, sxo, sxc, sxp, sxq, sxr, sxs, sxl, sxm, Int.reduceBEq, Int.reduceBNe, Int.reduceLT, Int.reduceLE, Int.reduceEq, Int.reduceGT, Int.reduceGE, Int.reduceToNat, ↓reduceIte, List.reduceReplicate, Nat.reduceAdd, Nat.reduceSub, Nat.reduceMul, Nat.reduceLT, Nat.reduceLeDiff, Nat.reduceBEq, Nat.reduceEqDiff, e8]
    exact ⟨(x + 1, Y3.set x false, X2), _, rfl, hout X2, ⟨by simp only []; omega, hnow, hsame hrule, rfl⟩, by simp only []; omega⟩
  | true =>
    rw [hpj] at hYx hptx
    rw [Bool.true_and] at hptx
    subst hptx
    cases CB with
    | false =>
      rw [if_neg (by simp)] at hrule
      refine ⟨?_⟩
      simp (config := { maxSteps := 4000000 }) only [↓sx0, ↓sx1, ↓sx2, ↓sx3, ↓sx4, ↓sx5, ↓sx6, sx0, sx1, sx2, sx3, sx4, sx5, sx6, tf65, ev3_hold, sxo, sxc, sxp, sxq, sxr, sxs, sxl, sxm, Int.reduceBEq, Int.reduceBNe, Int.reduceLT, Int.reduceLE, Int.reduceEq, Int.reduceGT, Int.reduceGE, Int.reduceToNat, ↓reduceIte, List.reduceReplicate, Nat.reduceAdd, Nat.reduceSub, Nat.reduceMul, Nat.reduceLT, Nat.reduceLeDiff, Nat.reduceBEq, Nat.reduceEqDiff, f7]
      refine at_1 hrw b1_len hYx rfl fun ad1 => ?_
      simp (config := { maxSteps := 4000000 }) only [↓sx0, ↓sx1, ↓sx2, ↓sx3, ↓sx4, ↓sx5, ↓sx6, sx0, sx1, sx2, sx3, sx4, sx5, sx6, tf65, ev3_hold, sxo, sxc, sxp, sxq, sxr, sxs, sxl, sxm, Int.reduceBEq, Int.reduceBNe, Int.reduceLT, Int.reduceLE, Int.reduceEq, Int.reduceGT, Int.reduceGE, Int.reduceToNat, ↓reduceIte, List.reduceReplicate, Nat.reduceAdd, Nat.reduceSub, Nat.reduceMul, Nat.reduceLT, Nat.reduceLeDiff, Nat.reduceBEq, Nat.reduceEqDiff, dn]
      refine CallOb.pureH (fun w' hp => hstx _ w' hp) ?_
      rintro q N3 rfl
      refine ⟨?_⟩
      simp (config := { maxSteps := 4000000 }) only [↓sx0, ↓sx1, ↓sx2, ↓sx3, ↓sx4, ↓sx5, ↓sx6, sx0, sx1, sx2, sx3, sx4, sx5, sx6, tf65, ev3_hold, sxo, sxc, sxp, sxq, sxr, sxs, sxl, sxm, Int.reduceBEq, Int.reduceBNe, Int.reduceLT, Int.reduceLE, Int.reduceEq, Int.reduceGT, Int.reduceGE, Int.reduceToNat, ↓reduceIte, List.reduceReplicate, Nat.reduceAdd, Nat.reduceSub, Nat.reduceMul, Nat.reduceLT, Nat.reduceLeDiff, Nat.reduceBEq, Nat.reduceEqDiff]
      refine ⟨by omega, by omega, _, rfl, ?_⟩
      refine wr_at (A := N3) (f := b1) (u := false) rfl b1_len (by omega) (by omega) ?_
      simp (config := { maxSteps := 4000000 }) only [↓sx0, ↓sx1, ↓sx2, ↓sx3, ↓sx4, ↓sx5, ↓sx6, sx0, sx1, sx2, sx3, sx4, sx5, sx6, tf65, ev3_hold, sxo, sxc, sxp, sxq, sxr, sxs, sxl, sxm, Int.reduceBEq, Int.reduceBNe, Int.reduceLT, Int.reduceLE, Int.reduceEq, Int.reduceGT, Int.reduceGE, Int.reduceToNat, ↓reduceIte, List.reduceReplicate, Nat.reduceAdd, Nat.reduceSub, Nat.reduceMul, Nat.reduceLT, Nat.reduceLeDiff, Nat.reduceBEq, Nat.reduceEqDiff]
      refine at_1 (hrw4 _ (by simp)) b1_len hYx4 rfl fun ad2 => ?_
      simp (config := { maxSteps := 4000000 }) only [↓sx0, ↓sx1, ↓sx2, ↓sx3, ↓sx4, ↓sx5, ↓sx6, sx0, sx1, sx2, sx3, sx4, sx5, sx6, tf65, ev3_hold, sxo, sxc, sxp, sxq, sxr, sxs, sxl, sxm, Int.reduceBEq, Int.reduceBNe, Int.reduceLT, Int.reduceLE, Int.reduceEq, Int.reduceGT, Int.reduceGE, Int.reduceToNat, ↓reduceIte, List.reduceReplicate, Nat.reduceAdd, Nat.reduceSub, Nat.reduceMul, Nat.reduceLT, Nat.reduceLeDiff, Nat.reduceBEq, Nat.reduceEqDiff, e8]
      exact ⟨(x + 1, Y3.set x false, X2), _, rfl, (HImp.app _ _ _).trans (hout X2), ⟨by simp only []; omega, hnow, hsame hrule, rfl⟩, by simp only []; omega⟩
    | true =>
      by_cases ho : OV < 0
      · have p1 : (OV < 0) = True := eq_true ho
        rw [if_pos ⟨ho, rfl⟩] at hrule
        refine ⟨?_⟩
        simp (config := { maxSteps := 4000000 }) only [↓sx0, ↓sx1, ↓sx2, ↓sx3, ↓sx4, ↓sx5, ↓sx6, sx0, sx1, sx2, sx3, sx4, sx5, sx6, tf65, ev3_hold, sxo, sxc, sxp, sxq, sxr, sxs, sxl, sxm, Int.reduceBEq, Int.reduceBNe, Int.reduceLT, Int.reduceLE, Int.reduceEq, Int.reduceGT, Int.reduceGE, Int.reduceToNat, ↓reduceIte, List.reduceReplicate, Nat.reduceAdd, Nat.reduceSub, Nat.reduceMul, Nat.reduceLT, Nat.reduceLeDiff, Nat.reduceBEq, Nat.reduceEqDiff, f7]
        refine at_1 hrw b1_len hYx rfl fun ad1 => ?_
        simp (config := { maxSteps := 4000000 }) only [↓sx0, ↓sx1, ↓sx2, ↓sx3, ↓sx4, ↓sx5, ↓sx6, sx0, sx1, sx2, sx3, sx4, sx5, sx6, tf65, ev3_hold, sxo, sxc, sxp, sxq, sxr, sxs, sxl, sxm, Int.reduceBEq, Int.reduceBNe, Int.reduceLT, Int.reduceLE, Int.reduceEq, Int.reduceGT, Int.reduceGE, Int.reduceToNat, ↓reduceIte, List.reduceReplicate, Nat.reduceAdd, Nat.reduceSub, Nat.reduceMul, Nat.reduceLT, Nat.reduceLeDiff, Nat.reduceBEq, Nat.reduceEqDiff, dn]
        refine CallOb.pureH (fun w' hp => hstx _ w' hp) ?_
        rintro q N3 rfl
        refine ⟨?_⟩
        simp (config := { maxSteps := 4000000 }) only [↓sx0, ↓sx1, ↓sx2, ↓sx3, ↓sx4, ↓sx5, ↓sx6, sx0, sx1, sx2, sx3, sx4, sx5, sx6, tf65, ev3_hold, sxo, sxc, sxp, sxq, sxr, sxs, sxl, sxm, Int.reduceBEq, Int.reduceBNe, Int.reduceLT, Int.reduceLE, Int.reduceEq, Int.reduceGT, Int.reduceGE, Int.reduceToNat, ↓reduceIte, List.reduceReplicate, Nat.reduceAdd, Nat.reduceSub, Nat.reduceMul, Nat.reduceLT, Nat.reduceLeDiff, Nat.reduceBEq, Nat.reduceEqDiff]
        refine ⟨by omega, by omega, _, rfl, ?_⟩
        refine wr_at (A := N3) (f := b1) (u := true) rfl b1_len (by omega) (by omega) ?_
        simp (config := { maxSteps := 4000000 }) only [↓sx0, ↓sx1, ↓sx2, ↓sx3, ↓sx4, ↓sx5, ↓sx6, sx0, sx1, sx2, sx3, sx4, sx5, sx6, tf65, ev3_hold, sxo, sxc, sxp, sxq, sxr, sxs, sxl, sxm, Int.reduceBEq, Int.reduceBNe, Int.reduceLT, Int.reduceLE, Int.reduceEq, Int.reduceGT, Int.reduceGE, Int.reduceToNat, ↓reduceIte, List.reduceReplicate, Nat.reduceAdd, Nat.reduceSub, Nat.reduceMul, Nat.reduceLT, Nat.reduceLeDiff, Nat.reduceBEq, Nat.reduceEqDiff]
        refine at_1 (hrw4 _ (by simp)) b1_len hYx4 rfl fun ad2 => ?_
        simp (config := { maxSteps := 4000000 }) only [↓sx0, ↓sx1, ↓sx2, ↓sx3, ↓sx4, ↓sx5, ↓sx6, sx0, sx1, sx2, sx3, sx4, sx5, sx6, tf65, ev3_hold, sxo, sxc, sxp, sxq, sxr, sxs, sxl, sxm, Int.reduceBEq, Int.reduceBNe, Int.reduceLT, Int.reduceLE, Int.reduceEq, Int.reduceGT, Int.reduceGE, Int.reduceToNat, ↓reduceIte, List.reduceReplicate, Nat.reduceAdd, Nat.reduceSub, Nat.reduceMul, Nat.reduceLT, Nat.reduceLeDiff, Nat.reduceBEq, Nat.reduceEqDiff]
        refine at_1 (hrX _ (by simp)) i1_len hox rfl fun ad2 => ?_
        simp (config := { maxSteps := 4000000 }) only [↓sx0, ↓sx1, ↓sx2, ↓sx3, ↓sx4, ↓sx5, ↓sx6, sx0, sx1, sx2, sx3, sx4, sx5, sx6, tf65, ev3_hold, sxo, sxc, sxp, sxq, sxr, sxs, sxl, sxm, Int.reduceBEq, Int.reduceBNe, Int.reduceLT, Int.reduceLE, Int.reduceEq, Int.reduceGT, Int.reduceGE, Int.reduceToNat, ↓reduceIte, List.reduceReplicate, Nat.reduceAdd, Nat.reduceSub, Nat.reduceMul, Nat.reduceLT, Nat.reduceLeDiff, Nat.reduceBEq, Nat.reduceEqDiff, p1]
        refine ⟨by omega, by omega, _, rfl, ?_⟩
        refine wr_at (A := N3 ++ [HO.row (.slice (some ⟨bn, 0, none⟩) n n) 4 1 (bools (Y3.set x true))]) (f := i1) (u := ((t + i : Nat) : Int)) (List.append_assoc N3 [_] _).symm i1_len (by omega) (by omega) ?_
        simp (config := { maxSteps := 4000000 }) only [↓sx0, ↓sx1, ↓sx2, ↓sx3, ↓sx4, ↓sx5, ↓sx6, sx0, sx1, sx2, sx3, sx4, sx5, sx6, tf65, ev3_hold, sxo, sxc, sxp, sxq, sxr, sxs, sxl, sxm, Int.reduceBEq, Int.reduceBNe, Int.reduceLT, Int.reduceLE, Int.reduceEq, Int.reduceGT, Int.reduceGE, Int.reduceToNat, ↓reduceIte, List.reduceReplicate, Nat.reduceAdd, Nat.reduceSub, Nat.reduceMul, Nat.reduceLT, Nat.reduceLeDiff, Nat.reduceBEq, Nat.reduceEqDiff, e8]
        exact ⟨(x + 1, Y3.set x true, X2.set x ((t + i : Nat) : Int)), _, rfl, by rw [List.append_assoc]; exact (HImp.app _ _ _).trans (hout (X2.set x ((t + i : Nat) : Int))), ⟨by simp only []; omega, hnow, hnew _ hrule, rfl⟩, by simp only []; omega⟩
      · have p1 : (OV < 0) = False := eq_false ho
        rw [if_neg (fun h => ho h.1)] at hrule
        refine ⟨?_⟩
        simp (config := { maxSteps := 4000000 }) only [↓sx0, ↓sx1, ↓sx2, ↓sx3, ↓sx4, ↓sx5, ↓sx6, sx0, sx1, sx2, sx3, sx4, sx5, sx6, tf65, ev3_hold, sxo, sxc, sxp, sxq, sxr, sxs, sxl, sxm, Int.reduceBEq, Int.reduceBNe, Int.reduceLT, Int.reduceLE, Int.reduceEq, Int.reduceGT, Int.reduceGE, Int.reduceToNat, ↓reduceIte, List.reduceReplicate, Nat.reduceAdd, Nat.reduceSub, Nat.reduceMul, Nat.reduceLT, Nat.reduceLeDiff, Nat.reduceBEq, Nat.reduceEqDiff, f7]
        refine at_1 hrw b1_len hYx rfl fun ad1 => ?_
        simp (config := { maxSteps := 4000000 }) only [↓sx0, ↓sx1, ↓sx2, ↓sx3, ↓sx4, ↓sx5, ↓sx6, sx0, sx1, sx2, sx3, sx4, sx5, sx6, tf65, ev3_hold, sxo, sxc, sxp, sxq, sxr, sxs, sxl, sxm, Int.reduceBEq, Int.reduceBNe, Int.reduceLT, Int.reduceLE, Int.reduceEq, Int.reduceGT, Int.reduceGE, Int.reduceToNat, ↓reduceIte, List.reduceReplicate, Nat.reduceAdd, Nat.reduceSub, Nat.reduceMul, Nat.reduceLT, Nat.reduceLeDiff, Nat.reduceBEq, Nat.reduceEqDiff, dn]
        refine CallOb.pureH (fun w' hp => hstx _ w' hp) ?_
        rintro q N3 rfl
        refine ⟨?_⟩
        simp (config := { maxSteps := 4000000 }) only [↓sx0, ↓sx1, ↓sx2, ↓sx3, ↓sx4, ↓sx5, ↓sx6, sx0, sx1, sx2, sx3, sx4, sx5, sx6, tf65, ev3_hold, sxo, sxc, sxp, sxq, sxr, sxs, sxl, sxm, Int.reduceBEq, Int.reduceBNe, Int.reduceLT, Int.reduceLE, Int.reduceEq, Int.reduceGT, Int.reduceGE, Int.reduceToNat, ↓reduceIte, List.reduceReplicate, Nat.reduceAdd, Nat.reduceSub, Nat.reduceMul, Nat.reduceLT, Nat.reduceLeDiff, Nat.reduceBEq, Nat.reduceEqDiff]
        refine ⟨by omega, by omega, _, rfl, ?_⟩
        refine wr_at (A := N3) (f := b1) (u := true) rfl b1_len (by omega) (by omega) ?_
        simp (config := { maxSteps := 4000000 }) only [↓sx0, ↓sx1, ↓sx2, ↓sx3, ↓sx4, ↓sx5, ↓sx6, sx0, sx1, sx2, sx3, sx4, sx5, sx6, tf65, ev3_hold, sxo, sxc, sxp, sxq, sxr, sxs, sxl, sxm, Int.reduceBEq, Int.reduceBNe, Int.reduceLT, Int.reduceLE, Int.reduceEq, Int.reduceGT, Int.reduceGE, Int.reduceToNat, ↓reduceIte, List.reduceReplicate, Nat.reduceAdd, Nat.reduceSub, Nat.reduceMul, Nat.reduceLT, Nat.reduceLeDiff, Nat.reduceBEq, Nat.reduceEqDiff]
        refine at_1 (hrw4 _ (by simp)) b1_len hYx4 rfl fun ad2 => ?_
        simp (config := { maxSteps := 4000000 }) only [↓sx0, ↓sx1, ↓sx2, ↓sx3, ↓sx4, ↓sx5, ↓sx6, sx0, sx1, sx2, sx3, sx4, sx5, sx6, tf65, ev3_hold, sxo, sxc, sxp, sxq, sxr, sxs, sxl, sxm, Int.reduceBEq, Int.reduceBNe, Int.reduceLT, Int.reduceLE, Int.reduceEq, Int.reduceGT, Int.reduceGE, Int.reduceToNat, ↓reduceIte, List.reduceReplicate, Nat.reduceAdd, Nat.reduceSub, Nat.reduceMul, Nat.reduceLT, Nat.reduceLeDiff, Nat.reduceBEq, Nat.reduceEqDiff]
        refine at_1 (hrX _ (by simp)) i1_len hox rfl fun ad2 => ?_
        simp (config := { maxSteps := 4000000 }) only [↓sx0, ↓sx1, ↓sx2, ↓sx3, ↓sx4, ↓sx5, ↓sx6, sx0, sx1, sx2, sx3, sx4, sx5, sx6, tf65, ev3_hold, sxo, sxc, sxp, sxq, sxr, sxs, sxl, sxm, Int.reduceBEq, Int.reduceBNe, Int.reduceLT, Int.reduceLE, Int.reduceEq, Int.reduceGT, Int.reduceGE, Int.reduceToNat, ↓reduceIte, List.reduceReplicate, Nat.reduceAdd, Nat.reduceSub, Nat.reduceMul, Nat.reduceLT, Nat.reduceLeDiff, Nat.reduceBEq, Nat.reduceEqDiff, p1, e8]
        exact ⟨(x + 1, Y3.set x true, X2), _, rfl, (HImp.app _ _ _).trans (hout X2), ⟨by simp only []; omega, hnow, hsame hrule, rfl⟩, by simp only []; omega⟩
end Go.Proofs.YtcnlbnccbnapbaaDoor
