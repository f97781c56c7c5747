/- A part of a proof: the symbolic walk and what it shows of single functions. -/
import Derived.Test.YtcnlbnccbnapbaaDoorP8
set_option linter.all false
namespace Go.Proofs.YtcnlbnccbnapbaaDoor
open Go.RowKit Go.SX
set_option maxRecDepth 20000
set_option maxHeartbeats 8000000
set_option linter.unusedSimpArgs false
set_option linter.unusedVariables false
def nbD (W H k d : Nat) : List Int := nts (k :: besL W H k d)
theorem nbD_len (W H k d : Nat) : (nbD W H k d).length = (besL W H k d).length + 1 := by simp [nbD]
theorem nbD_bd (W H k d : Nat) (hd : d ≤ 6) : (nbD W H k d).length ≤ 7 := by
  have h1 := nbL_len W H k
  obtain ⟨r, hr⟩ := besL_pre W H k d hd
  rw [nbD_len]
  unfold nbL at h1
  rw [List.length_cons, hr, List.length_append] at h1
  omega
theorem rnear_fn (w : World) (hw : Ways w) (v : Value) (c : Cht) (hc : ChOk w v c) (hok : c.ok) (k : Nat) (hk : k < c.depth.length) :
    SX.Fn Tryd.prog 53 [v, I k] w (fun _ => False) fun r N => Got r 3 1 i1 (nts (nbL c.W c.H k)) N := by
  have hD := detR_ok (X := fun _ => False) hw hc (fun _ _ => id)
  obtain ⟨sD, sT, sS, rfl, hsD, hsT, hsS⟩ := hc
  obtain ⟨eW, eH, hW, hH, hlen⟩ := hok.dims
  refine walk [] [] hD Tryd.func53 rfl Tryd.ntmps53 res53 (by kernel_rfl) no_facts ?_
  simp (config := { maxSteps := 4000000 }) only [↓sx0, ↓sx1, ↓sx2, ↓sx3, ↓sx4, ↓sx5, ↓sx6, sx0, sx1, sx2, sx3, sx4, sx5, sx6, tf53, ev3_hold, sxo, sxc, sxp, sxq, sxr, sxs, sxl, sxm, Int.reduceBEq, Int.reduceBNe, Int.reduceLT, Int.reduceLE, Int.reduceEq, Int.reduceGT, Int.reduceGE, Int.reduceToNat, ↓reduceIte, List.reduceReplicate, Nat.reduceAdd, Nat.reduceSub, Nat.reduceMul, Nat.reduceLT, Nat.reduceLeDiff, Nat.reduceBEq, Nat.reduceEqDiff]
  intro b1
  refine loop_constH [HO.row (.slice (some ⟨b1, 0, none⟩) (nbD c.W c.H k 0).length 1) 3 1 (ints (nbD c.W c.H k 0))] (HImp.refl _ _) [(5, 8), (11, 26)] (fun s : Nat × Addr × Nat => [(5, .slice (some s.2.1) (nbD c.W c.H k s.1).length s.2.2), (6, I s.1)])
    (fun s H1 => s.1 ≤ 6 ∧ H1 = [HO.row (.slice (some s.2.1) (nbD c.W c.H k s.1).length s.2.2) 3 1 (ints (nbD c.W c.H k s.1))]) (fun s => 6 - s.1) (0, ⟨b1, 0, none⟩, 1) ?_ ⟨Nat.zero_le _, rfl⟩ ?_
  · simp (config := { maxSteps := 4000000 }) only [↓sx0, ↓sx1, ↓sx2, ↓sx3, ↓sx4, ↓sx5, ↓sx6, sx0, sx1, sx2, sx3, sx4, sx5, sx6, tf53, ev3_hold, sxo, sxc, sxp, sxq, sxr, sxs, sxl, sxm, Int.reduceBEq, Int.reduceBNe, Int.reduceLT, Int.reduceLE, Int.reduceEq, Int.reduceGT, Int.reduceGE, Int.reduceToNat, ↓reduceIte, List.reduceReplicate, Nat.reduceAdd, Nat.reduceSub, Nat.reduceMul, Nat.reduceLT, Nat.reduceLeDiff, Nat.reduceBEq, Nat.reduceEqDiff]
    simp [nbD, besL]
  · rintro ⟨d, ad, cp⟩ H1 g ⟨hd, rfl⟩
    simp only [] at hd
    by_cases hd6 : d = 6
    · subst hd6
      have e7 : (((6 : Nat) : Int) < 6) = False := eq_false (by omega)
      refine ⟨?_⟩
      simp (config := { maxSteps := 4000000 }) only [↓sx0, ↓sx1, ↓sx2, ↓sx3, ↓sx4, ↓sx5, ↓sx6, sx0, sx1, sx2, sx3, sx4, sx5, sx6, tf53, ev3_hold, sxo, sxc, sxp, sxq, sxr, sxs, sxl, sxm, Int.reduceBEq, Int.reduceBNe, Int.reduceLT, Int.reduceLE, Int.reduceEq, Int.reduceGT, Int.reduceGE, Int.reduceToNat, ↓reduceIte, List.reduceReplicate, Nat.reduceAdd, Nat.reduceSub, Nat.reduceMul, Nat.reduceLT, Nat.reduceLeDiff, Nat.reduceBEq, Nat.reduceEqDiff, e7]
      exact Got.row rfl List.mem_cons_self (fun h => by cases h)
    have e7 : ((d : Int) < 6) = True := eq_true (by omega)
    have e8 : IntKind.i64.wrap ((d : Int) + 1) = ((d + 1 : Nat) : Int) := (wrap_id (by omega)).trans (by omega)
    have hb := (detR_beside (.agg #[I c.wide, I c.high, sD, sT, sS]) c hW hH (show k < c.W * c.H by omega) (show d < 6 by omega) sD sT sS).2
    rw [← eW, ← eH] at hb
    have hbs : nbD c.W c.H k (d + 1) = nbD c.W c.H k d ++ nts (bes c.W c.H k d).toList := by
      unfold nbD
      rw [besL_succ]
      simp
    have hbd := nbD_bd c.W c.H k d (by omega)
    unfold besV at hb
    cases hbe : bes c.W c.H k d with
    | none =>
      rw [hbe] at hb hbs
      simp only [Option.toList_none, List.map_nil, List.append_nil] at hb hbs
      refine ⟨?_⟩
      simp (config := { maxSteps := 4000000 }) only [↓sx0, ↓sx1, ↓sx2, ↓sx3, ↓sx4, ↓sx5, ↓sx6, sx0, sx1, sx2, sx3, sx4, sx5, sx6, tf53, ev3_hold, sxo, sxc, sxp, sxq, sxr, sxs, sxl, sxm, Int.reduceBEq, Int.reduceBNe, Int.reduceLT, Int.reduceLE, Int.reduceEq, Int.reduceGT, Int.reduceGE, Int.reduceToNat, ↓reduceIte, List.reduceReplicate, Nat.reduceAdd, Nat.reduceSub, Nat.reduceMul, Nat.reduceLT, Nat.reduceLeDiff, Nat.reduceBEq, Nat.reduceEqDiff, e7, hb, e8]
      refine ⟨(d + 1, ad, cp), _, ?_, HImp.refl _ _, ⟨by omega, ?_⟩, by omega⟩
      · simp only []
        rw [hbs]
        exact ⟨rfl, trivial⟩
      · simp only []
        rw [hbs]
    | some n =>
      rw [hbe] at hb hbs
      simp only [Option.toList_some, List.map_cons, List.map_nil] at hb hbs
      refine ⟨?_⟩
      simp (config := { maxSteps := 4000000 }) only [↓sx0, ↓sx1, ↓sx2, ↓sx3, ↓sx4, ↓sx5, ↓sx6, sx0, sx1, sx2, sx3, sx4, sx5, sx6, tf53, ev3_hold, sxo, sxc, sxp, sxq, sxr, sxs, sxl, sxm, Int.reduceBEq, Int.reduceBNe, Int.reduceLT, Int.reduceLE, Int.reduceEq, Int.reduceGT, Int.reduceGE, Int.reduceToNat, ↓reduceIte, List.reduceReplicate, Nat.reduceAdd, Nat.reduceSub, Nat.reduceMul, Nat.reduceLT, Nat.reduceLeDiff, Nat.reduceBEq, Nat.reduceEqDiff, e7, hb, e8]
      intro b2
      refine app_one (l := nbD c.W c.H k d) (n : Int) (HImp.refl _ _) i1_len i1_one (by omega) fun ad2 c2 => ?_
      simp (config := { maxSteps := 4000000 }) only [↓sx0, ↓sx1, ↓sx2, ↓sx3, ↓sx4, ↓sx5, ↓sx6, sx0, sx1, sx2, sx3, sx4, sx5, sx6, tf53, ev3_hold, sxo, sxc, sxp, sxq, sxr, sxs, sxl, sxm, Int.reduceBEq, Int.reduceBNe, Int.reduceLT, Int.reduceLE, Int.reduceEq, Int.reduceGT, Int.reduceGE, Int.reduceToNat, ↓reduceIte, List.reduceReplicate, Nat.reduceAdd, Nat.reduceSub, Nat.reduceMul, Nat.reduceLT, Nat.reduceLeDiff, Nat.reduceBEq, Nat.reduceEqDiff, e8]
      refine ⟨(d + 1, ad2, c2), _, ?_, HImp.refl _ _, ⟨by omega, ?_⟩, by omega⟩
      · simp only []
        rw [hbs, List.length_append]
        exact ⟨rfl, trivial⟩
      · simp only []
        rw [hbs, List.length_append]
        rfl
theorem stands5_fn (w : World) (v : Value) (c : Cht) (hc : ChOk w v c) (hok : c.ok) (b : Cls) (k t : Nat) (hk : k < c.depth.length) (ht : t < c.tide.length) :
    SX.Fn Tryd.prog 51 [v, clv b, I k, I t] w (fun _ => False) fun q N => q = .bool (canB c b t k) := by
  have hsw := hok.2.2.2.2.1
  have hsu := fun (H : List HO) w' (hp : Hp ⟨w, fun _ => False⟩ H w') => sure_fn w' v c (hc.hp hp) hok b.draught k t hk ht
  obtain ⟨sD, sT, sS, rfl, hsD, hsT, hsS⟩ := hc
  obtain ⟨aS, nS, cS, rfl⟩ := hsS.shape
  have hnS := hsS.le i1_len (by omega)
  subst hnS
  have hrS := hsS.rd0
  have dn : ∀ (g : Nat) (xs : List Value), det0 g xs = none := fun _ _ => rfl
  unfold clv canB
  refine walk [] [] (det0_ok _ _) Tryd.func51 rfl Tryd.ntmps51 res51 (by kernel_rfl) no_facts ?_
  simp (config := { maxSteps := 4000000 }) only [↓sx0, ↓sx1, ↓sx2, ↓sx3, ↓sx4, ↓sx5, ↓sx6, sx0, sx1, sx2, sx3, sx4, sx5, sx6, tf51, ev3_hold, sxo, sxc, sxp, sxq, sxr, sxs, sxl, sxm, Int.reduceBEq, Int.reduceBNe, Int.reduceLT, Int.reduceLE, Int.reduceEq, Int.reduceGT, Int.reduceGE, Int.reduceToNat, ↓reduceIte, List.reduceReplicate, Nat.reduceAdd, Nat.reduceSub, Nat.reduceMul, Nat.reduceLT, Nat.reduceLeDiff, Nat.reduceBEq, Nat.reduceEqDiff, dn]
  refine CallOb.pureH (fun w' hp => hsu _ w' hp) ?_
  rintro q N rfl
  by_cases h1 : c.over k t (c.tlo t) ≥ b.draught
  · have e1 : decide (c.over k t (c.tlo t) ≥ b.draught) = true := decide_eq_true h1
    rw [e1]
    refine ⟨?_⟩
    simp (config := { maxSteps := 4000000 }) only [↓sx0, ↓sx1, ↓sx2, ↓sx3, ↓sx4, ↓sx5, ↓sx6, sx0, sx1, sx2, sx3, sx4, sx5, sx6, tf51, ev3_hold, sxo, sxc, sxp, sxq, sxr, sxs, sxl, sxm, Int.reduceBEq, Int.reduceBNe, Int.reduceLT, Int.reduceLE, Int.reduceEq, Int.reduceGT, Int.reduceGE, Int.reduceToNat, ↓reduceIte, List.reduceReplicate, Nat.reduceAdd, Nat.reduceSub, Nat.reduceMul, Nat.reduceLT, Nat.reduceLeDiff, Nat.reduceBEq, Nat.reduceEqDiff]
    refine at_1 (hrS _) i1_len (getD_at (show t < c.swell.length by omega) 0) rfl fun ad3 => ?_
    simp (config := { maxSteps := 4000000 }) only [↓sx0, ↓sx1, ↓sx2, ↓sx3, ↓sx4, ↓sx5, ↓sx6, sx0, sx1, sx2, sx3, sx4, sx5, sx6, tf51, ev3_hold, sxo, sxc, sxp, sxq, sxr, sxs, sxl, sxm, Int.reduceBEq, Int.reduceBNe, Int.reduceLT, Int.reduceLE, Int.reduceEq, Int.reduceGT, Int.reduceGE, Int.reduceToNat, ↓reduceIte, List.reduceReplicate, Nat.reduceAdd, Nat.reduceSub, Nat.reduceMul, Nat.reduceLT, Nat.reduceLeDiff, Nat.reduceBEq, Nat.reduceEqDiff, show c.swell.getD t 0 = c.swl t from rfl]
  · have e1 : decide (c.over k t (c.tlo t) ≥ b.draught) = false := decide_eq_false h1
    rw [e1]
    refine ⟨?_⟩
    simp (config := { maxSteps := 4000000 }) only [↓sx0, ↓sx1, ↓sx2, ↓sx3, ↓sx4, ↓sx5, ↓sx6, sx0, sx1, sx2, sx3, sx4, sx5, sx6, tf51, ev3_hold, sxo, sxc, sxp, sxq, sxr, sxs, sxl, sxm, Int.reduceBEq, Int.reduceBNe, Int.reduceLT, Int.reduceLE, Int.reduceEq, Int.reduceGT, Int.reduceGE, Int.reduceToNat, ↓reduceIte, List.reduceReplicate, Nat.reduceAdd, Nat.reduceSub, Nat.reduceMul, Nat.reduceLT, Nat.reduceLeDiff, Nat.reduceBEq, Nat.reduceEqDiff]
theorem rready5_fn (w : World) (hw : Ways w) (v : Value) (c : Cht) (hc : ChOk w v c) (hok : c.ok) (b : Cls) (r : Rmp) (hcl : clsB b = true) (hr : rampB c r = true) (t : Nat) (ht : t < c.tide.length) :
    SX.Fn Tryd.prog 49 [v, clv b, rmv r, I t] w (fun _ => False) fun q N => q = .bool (rdyB c b r t) := by
  have hc0 := hc
  have hkb : 0 < c.depth.length := by
    have := hok.dims
    have h3 : 1 * 1 ≤ c.W * c.H := Nat.mul_le_mul this.2.2.1.1 this.2.2.2.1.1
    omega
  have hb := hok.bds hkb ht
  have hsw := hok.2.2.2.2.1
  have hcb := (clsB_iff b).1 hcl
  have hrw : rampB c (r.own b) = true := by
    unfold rampB at hr ⊢
    simp only [Bool.and_eq_true] at hr ⊢
    exact ⟨⟨⟨⟨hr.1.1.1.1, (inB_iff _ _ _).2 (by have := hcb.1; exact this)⟩, hr.1.1.2⟩, hr.1.2⟩, hr.2⟩
  have hla := fun (h : Int) (hh : -10000 ≤ h ∧ h ≤ 10000) (H : List HO) w' (hp : Hp ⟨w, fun _ => False⟩ H w') => launches_fn w' (hw.hp hp) v c (r.own b) (hc0.hp hp) hok hrw t h ht hh
  obtain ⟨sD, sT, sS, rfl, hsD, hsT, hsS⟩ := hc
  obtain ⟨aS, nS, cS, rfl⟩ := hsS.shape
  obtain ⟨aT, nT, cT, rfl⟩ := hsT.shape
  have hnT := hsT.le spc_len (by omega)
  have hnS := hsS.le i1_len (by omega)
  subst hnS hnT
  have hrS := hsS.rd0
  have hrT := hsT.rd0
  have dn : ∀ (g : Nat) (xs : List Value), det0 g xs = none := fun _ _ => rfl
  have hsl : c.swell.getD t 0 = c.swl t := rfl
  unfold clv rmv
  unfold rmv Rmp.own at hla
  simp only [] at hla
  refine walk [] [] (det0_ok _ _) Tryd.func49 rfl Tryd.ntmps49 res49 (by kernel_rfl) no_facts ?_
  simp (config := { maxSteps := 4000000 }) only [↓sx0, ↓sx1, ↓sx2, ↓sx3, ↓sx4, ↓sx5, ↓sx6, sx0, sx1, sx2, sx3, sx4, sx5, sx6, tf49, ev3_hold, sxo, sxc, sxp, sxq, sxr, sxs, sxl, sxm, Int.reduceBEq, Int.reduceBNe, Int.reduceLT, Int.reduceLE, Int.reduceEq, Int.reduceGT, Int.reduceGE, Int.reduceToNat, ↓reduceIte, List.reduceReplicate, Nat.reduceAdd, Nat.reduceSub, Nat.reduceMul, Nat.reduceLT, Nat.reduceLeDiff, Nat.reduceBEq, Nat.reduceEqDiff]
  refine at_f (hrT _) spc_len (getD_at ht (0, 0)) (o := 0) (x := I (c.tlo t)) rfl fun ad1 => ?_
  simp (config := { maxSteps := 4000000 }) only [↓sx0, ↓sx1, ↓sx2, ↓sx3, ↓sx4, ↓sx5, ↓sx6, sx0, sx1, sx2, sx3, sx4, sx5, sx6, tf49, ev3_hold, sxo, sxc, sxp, sxq, sxr, sxs, sxl, sxm, Int.reduceBEq, Int.reduceBNe, Int.reduceLT, Int.reduceLE, Int.reduceEq, Int.reduceGT, Int.reduceGE, Int.reduceToNat, ↓reduceIte, List.reduceReplicate, Nat.reduceAdd, Nat.reduceSub, Nat.reduceMul, Nat.reduceLT, Nat.reduceLeDiff, Nat.reduceBEq, Nat.reduceEqDiff]
  refine loop_constH [] (HImp.refl _ _) [(8, 9), (19, 34)] (fun j : Nat => [(9, I (c.tlo t + j))])
    (fun j H1 => c.tlo t + j ≤ c.thi t + 1 ∧ (∀ h, c.tlo t ≤ h → h < c.tlo t + j → laun c (r.own b) t h) ∧ H1 = []) (fun j => 1000 - j) 0 ?_ ⟨by omega, fun h h1 h2 => by omega, rfl⟩ ?_
  · simp (config := { maxSteps := 4000000 }) only [↓sx0, ↓sx1, ↓sx2, ↓sx3, ↓sx4, ↓sx5, ↓sx6, sx0, sx1, sx2, sx3, sx4, sx5, sx6, tf49, ev3_hold, sxo, sxc, sxp, sxq, sxr, sxs, sxl, sxm, Int.reduceBEq, Int.reduceBNe, Int.reduceLT, Int.reduceLE, Int.reduceEq, Int.reduceGT, Int.reduceGE, Int.reduceToNat, ↓reduceIte, List.reduceReplicate, Nat.reduceAdd, Nat.reduceSub, Nat.reduceMul, Nat.reduceLT, Nat.reduceLeDiff, Nat.reduceBEq, Nat.reduceEqDiff]
    try simp
  rintro j H1 g ⟨hj, hal, rfl⟩
  by_cases hje : c.tlo t + j = c.thi t + 1
  · have e9 : (c.tlo t + (j : Int) ≤ c.thi t) = False := eq_false (by omega)
    have hs : sureT c (r.own b) t = true := sureT_iff.2 fun x h1 h2 => hal x h1 (by omega)
    have hv : rdyB c b r t = decide (c.swl t ≤ b.seas) := by unfold rdyB; rw [hs]; rfl
    refine ⟨?_⟩
    simp (config := { maxSteps := 4000000 }) only [↓sx0, ↓sx1, ↓sx2, ↓sx3, ↓sx4, ↓sx5, ↓sx6, sx0, sx1, sx2, sx3, sx4, sx5, sx6, tf49, ev3_hold, sxo, sxc, sxp, sxq, sxr, sxs, sxl, sxm, Int.reduceBEq, Int.reduceBNe, Int.reduceLT, Int.reduceLE, Int.reduceEq, Int.reduceGT, Int.reduceGE, Int.reduceToNat, ↓reduceIte, List.reduceReplicate, Nat.reduceAdd, Nat.reduceSub, Nat.reduceMul, Nat.reduceLT, Nat.reduceLeDiff, Nat.reduceBEq, Nat.reduceEqDiff]
    refine at_f (hrT _) spc_len (getD_at ht (0, 0)) (o := 1) (x := I (c.thi t)) rfl fun ad2 => ?_
    simp (config := { maxSteps := 4000000 }) only [↓sx0, ↓sx1, ↓sx2, ↓sx3, ↓sx4, ↓sx5, ↓sx6, sx0, sx1, sx2, sx3, sx4, sx5, sx6, tf49, ev3_hold, sxo, sxc, sxp, sxq, sxr, sxs, sxl, sxm, Int.reduceBEq, Int.reduceBNe, Int.reduceLT, Int.reduceLE, Int.reduceEq, Int.reduceGT, Int.reduceGE, Int.reduceToNat, ↓reduceIte, List.reduceReplicate, Nat.reduceAdd, Nat.reduceSub, Nat.reduceMul, Nat.reduceLT, Nat.reduceLeDiff, Nat.reduceBEq, Nat.reduceEqDiff, e9]
    refine at_1 (hrS _) i1_len (getD_at (show t < c.swell.length by omega) 0) rfl fun ad3 => ?_
    simp (config := { maxSteps := 4000000 }) only [↓sx0, ↓sx1, ↓sx2, ↓sx3, ↓sx4, ↓sx5, ↓sx6, sx0, sx1, sx2, sx3, sx4, sx5, sx6, tf49, ev3_hold, sxo, sxc, sxp, sxq, sxr, sxs, sxl, sxm, Int.reduceBEq, Int.reduceBNe, Int.reduceLT, Int.reduceLE, Int.reduceEq, Int.reduceGT, Int.reduceGE, Int.reduceToNat, ↓reduceIte, List.reduceReplicate, Nat.reduceAdd, Nat.reduceSub, Nat.reduceMul, Nat.reduceLT, Nat.reduceLeDiff, Nat.reduceBEq, Nat.reduceEqDiff, hsl]
    rw [hv]
  have e9 : (c.tlo t + (j : Int) ≤ c.thi t) = True := eq_true (by omega)
  have e8 : wr (c.tlo t + (j : Int) + 1) = c.tlo t + ((j + 1 : Nat) : Int) := (wrap_id (by omega)).trans (by omega)
  refine ⟨?_⟩
  simp (config := { maxSteps := 4000000 }) only [↓sx0, ↓sx1, ↓sx2, ↓sx3, ↓sx4, ↓sx5, ↓sx6, sx0, sx1, sx2, sx3, sx4, sx5, sx6, tf49, ev3_hold, sxo, sxc, sxp, sxq, sxr, sxs, sxl, sxm, Int.reduceBEq, Int.reduceBNe, Int.reduceLT, Int.reduceLE, Int.reduceEq, Int.reduceGT, Int.reduceGE, Int.reduceToNat, ↓reduceIte, List.reduceReplicate, Nat.reduceAdd, Nat.reduceSub, Nat.reduceMul, Nat.reduceLT, Nat.reduceLeDiff, Nat.reduceBEq, Nat.reduceEqDiff]
  refine at_f (hrT _) spc_len (getD_at ht (0, 0)) (o := 1) (x := I (c.thi t)) rfl fun ad2 => ?_
  simp (config := { maxSteps := 4000000 }) only [↓sx0, ↓sx1, ↓sx2, ↓sx3, ↓sx4, ↓sx5, ↓sx6, sx0, sx1, sx2, sx3, sx4, sx5, sx6, tf49, ev3_hold, sxo, sxc, sxp, sxq, sxr, sxs, sxl, sxm, Int.reduceBEq, Int.reduceBNe, Int.reduceLT, Int.reduceLE, Int.reduceEq, Int.reduceGT, Int.reduceGE, Int.reduceToNat, ↓reduceIte, List.reduceReplicate, Nat.reduceAdd, Nat.reduceSub, Nat.reduceMul, Nat.reduceLT, Nat.reduceLeDiff, Nat.reduceBEq, Nat.reduceEqDiff, e9, dn]
  refine CallOb.pureH (fun w' hp => hla (c.tlo t + j) (by omega) _ w' hp) ?_
  rintro q N ⟨bl, rfl, hbl⟩
  cases bl with
  | true =>
    refine ⟨?_⟩
    simp (config := { maxSteps := 4000000 }) only [↓sx0, ↓sx1, ↓sx2, ↓sx3, ↓sx4, ↓sx5, ↓sx6, sx0, sx1, sx2, sx3, sx4, sx5, sx6, tf49, ev3_hold, sxo, sxc, sxp, sxq, sxr, sxs, sxl, sxm, Int.reduceBEq, Int.reduceBNe, Int.reduceLT, Int.reduceLE, Int.reduceEq, Int.reduceGT, Int.reduceGE, Int.reduceToNat, ↓reduceIte, List.reduceReplicate, Nat.reduceAdd, Nat.reduceSub, Nat.reduceMul, Nat.reduceLT, Nat.reduceLeDiff, Nat.reduceBEq, Nat.reduceEqDiff, e8]
    refine ⟨j + 1, _, rfl, HImp.nil _ _, ⟨by omega, fun x h1 h2 => ?_, rfl⟩, by omega⟩
    by_cases hx : x = c.tlo t + j
    · subst hx
      exact hbl.1 rfl
    · exact hal x h1 (by omega)
  | false =>
    have hs : sureT c (r.own b) t = false := by
      cases h : sureT c (r.own b) t with
      | false => rfl
      | true =>
        have := hbl.2 (sureT_iff.1 h (c.tlo t + j) (by omega) (by omega))
        cases this
    have hv : rdyB c b r t = false := by unfold rdyB; rw [hs]; rfl
    refine ⟨?_⟩
    simp (config := { maxSteps := 4000000 }) only [↓sx0, ↓sx1, ↓sx2, ↓sx3, ↓sx4, ↓sx5, ↓sx6, sx0, sx1, sx2, sx3, sx4, sx5, sx6, tf49, ev3_hold, sxo, sxc, sxp, sxq, sxr, sxs, sxl, sxm, Int.reduceBEq, Int.reduceBNe, Int.reduceLT, Int.reduceLE, Int.reduceEq, Int.reduceGT, Int.reduceGE, Int.reduceToNat, ↓reduceIte, List.reduceReplicate, Nat.reduceAdd, Nat.reduceSub, Nat.reduceMul, Nat.reduceLT, Nat.reduceLeDiff, Nat.reduceBEq, Nat.reduceEqDiff]
    rw [hv]
end Go.Proofs.YtcnlbnccbnapbaaDoor
