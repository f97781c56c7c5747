/- A part of a proof: the symbolic walk and what it shows of single functions. -/
import Derived.Test.YtcnlbnccbnapbaaDoorSqA
set_option linter.all false
namespace Go.Proofs.YtcnlbnccbnapbaaDoor
open Go.RowKit Go.SX
set_option maxRecDepth 20000
set_option maxHeartbeats 0
set_option linter.unusedSimpArgs false
set_option linter.unusedVariables false
def Vg.ct (l : List Int) (i : Nat) : Nat := (l.getD i 0).toNat
def Vg.vst (g : Vg) (l : List Int) : Nat → Nat
  | 0 => 0
  | i + 1 => g.st (Vg.ct l i) (g.vst l i)
def Vg.vbn (g : Vg) (l : List Int) : Nat → Int
  | 0 => 0
  | 1 => 0
  | i + 2 => g.vbn l (i + 1) + g.wg (Vg.ct l i) (Vg.ct l (i + 1))
def Vg.vto (g : Vg) (l : List Int) (n : Nat) : Prop := ∀ j, j < n → (0 ≤ l.getD j 0 ∧ l.getD j 0 < g.c.depth.length) ∧ canB g.c g.b (g.t + j) (Vg.ct l j) = true ∧ (0 < j → Vg.ct l (j - 1) ∈ nbL g.c.W g.c.H (Vg.ct l j))
def Vg.isVy (g : Vg) (rdy : Nat → Bool) (l : List Int) : Prop := 0 < l.length ∧ g.t + l.length ≤ g.c.tide.length ∧ l.getD 0 0 = g.k ∧ l.getD (l.length - 1) 0 = g.k ∧ rdy g.t = true ∧ rdy (g.t + l.length - 1) = true ∧ g.vto l l.length ∧ g.vst l l.length = g.ts + 1
theorem Vg.vst_le (g : Vg) (l : List Int) : ∀ i, g.vst l i < g.ts + 2
  | 0 => by rw [Vg.vst]; omega
  | i + 1 => g.st_le (g.vst_le l i)
theorem Vg.vbn_bd {g : Vg} (hg : g.Ok) (l : List Int) : ∀ i, 0 ≤ g.vbn l i ∧ g.vbn l i ≤ 100 * i
  | 0 => by rw [Vg.vbn]; omega
  | 1 => by rw [Vg.vbn]; omega
  | i + 2 => by
    have h1 := Vg.vbn_bd hg l (i + 1)
    have h2 := Vg.wg_bd hg (Vg.ct l i) (Vg.ct l (i + 1))
    rw [Vg.vbn]
    omega
theorem Vg.st_stN (g : Vg) (y s : Nat) : stN g.tc g.ts y s = (g.st y s : Nat) := by
  unfold stN Vg.st
  by_cases h : s > g.ts
  · rw [if_pos h, if_pos (by omega)]
  · rw [if_neg h, if_neg (by omega)]
    by_cases h2 : y = g.tc
    · rw [if_pos h2, if_pos (by omega)]
      rfl
    · rw [if_neg h2, if_neg (by omega)]
      rfl
theorem at_10 {α : Type} {w0 : Base} {H : List HO} {a : Option Addr} {len cap : Nat} {f : α → List Value} {l : List α} {u : α} {x : Value} {K : Addr → SV → Prop} (h : Rdv w0 H (.slice a len cap) 1 (cat f l)) (hf : ∀ a, (f a).length = 1)
    (hu : l[0]? = some u) (hx : f u = [x]) (hK : ∀ ad, K ad (.v x)) : (0 : Int) < (len : Int) ∧ ∃ ad, a = some ad ∧ hold (LdOb w0 H (ad.add 0) none (K ad)) ⟨0⟩ := by
  obtain ⟨h1, h2, ad, e, h3⟩ := at_1 (k := 0) h hf hu hx hK
  exact ⟨by omega, ad, e, h3⟩
theorem isVoyage_fn (w : World) (hw : Ways w) (v : Value) (g : Vg) (hg : g.Ok) (hc : ChOk w v g.c) (r : Rmp) (hr : rampB g.c r = true) (hkr : r.cell = g.k) (vl : Value) (l : List Int) (hl : Sl w vl 1 (ints l)) (hb : l.length ≤ 1000) :
    SX.Fn Tryd.prog 19 [v, clv g.b, rmv r, I g.t, .agg #[I g.tc, I g.ts], vl] w (fun _ => False) fun q N => ∃ B bl, q = .tuple #[I B, .bool bl] ∧ (bl = true ↔ g.isVy (rdyB g.c g.b r) l) ∧ (bl = true → B = g.vbn l l.length) := by
  have hc0 := hc
  have hD := detO_ok (X := fun _ => False) hw hc (fun _ _ => id)
  have hok := hg.ok
  have hry := fun (t : Nat) (ht : t < g.c.tide.length) (H : List HO) w' (hp : Hp ⟨w, fun _ => False⟩ H w') => rready5_fn w' (hw.hp hp) v g.c (hc0.hp hp) hok g.b r hg.cls hr t ht
  have hsd := fun (k t : Nat) (hk : k < g.c.depth.length) (ht : t < g.c.tide.length) (H : List HO) w' (hp : Hp ⟨w, fun _ => False⟩ H w') => stands5_fn w' v g.c (hc0.hp hp) hok g.b k t hk ht
  have hnr := fun (k : Nat) (hk : k < g.c.depth.length) (H : List HO) w' (hp : Hp ⟨w, fun _ => False⟩ H w') => rnear_fn w' (hw.hp hp) v g.c (hc0.hp hp) hok k hk
  have hsy := fun (at_ before : Int) (hb : 0 ≤ before ∧ before ≤ g.ts + 1) (H : List HO) w' (hp : Hp ⟨w, fun _ => False⟩ H w') => staying_fn w' g.tc g.ts at_ before hb (by have := hg.ts; omega)
  have hcb := (clsB_iff g.b).1 hg.cls
  obtain ⟨sD, sT, sS, rfl, hsD, hsT, hsS⟩ := hc
  obtain ⟨aT, nT, cT, rfl⟩ := hsT.shape
  obtain ⟨a, n, cp, rfl⟩ := hl.shape
  have hnT := hsT.le spc_len (by omega)
  have hn := hl.le i1_len (by omega)
  subst hn hnT
  have hrl := hl.rd0
  have h60 := hok.2.2.2.1.2
  have ht0 := hg.t
  have hts := hg.ts
  have hci := fun n : Int => show detO (.agg #[I g.c.wide, I g.c.high, sD, .slice aT g.c.tide.length cT, sS]) g.c 50 [.agg #[I g.c.wide, I g.c.high, sD, .slice aT g.c.tide.length cT, sS], I n] = some (.bool (inB n 0 ((g.c.depth.length : Int) - 1))) from by rw [← isCellB_eq hok]; rfl
  have dn : (∀ xs, detO (.agg #[I g.c.wide, I g.c.high, sD, .slice aT g.c.tide.length cT, sS]) g.c 49 xs = none) ∧ (∀ xs, detO (.agg #[I g.c.wide, I g.c.high, sD, .slice aT g.c.tide.length cT, sS]) g.c 51 xs = none) ∧ (∀ xs, detO (.agg #[I g.c.wide, I g.c.high, sD, .slice aT g.c.tide.length cT, sS]) g.c 53 xs = none) ∧ (∀ xs, detO (.agg #[I g.c.wide, I g.c.high, sD, .slice aT g.c.tide.length cT, sS]) g.c 52 xs = none) := ⟨fun _ => rfl, fun _ => rfl, fun _ => rfl, fun _ => rfl⟩
  have hvb := Vg.vbn_bd hg l
  have hvs := g.vst_le l
  unfold clv rmv at hry ⊢
  unfold clv at hsd
  refine walk [] [] hD Tryd.func19 rfl Tryd.ntmps19 res19 (by kernel_rfl) no_facts ?_
  by_cases h0 : l.length = 0
  · have e1 : ((l.length : Int) = 0) = True := eq_true (by omega)
    simp (config := { maxSteps := 4000000 }) only [↓sx0, ↓sx1, ↓sx2, ↓sx3, ↓sx4, ↓sx5, ↓sx6, sx0, sx1, sx2, sx3, sx4, sx5, sx6, tf19, ev3_hold, sxo, sxc, sxp, sxq, sxr, sxs, sxl, sxm, Int.reduceBEq, Int.reduceBNe, Int.reduceLT, Int.reduceLE, Int.reduceEq, Int.reduceGT, Int.reduceGE, Int.reduceToNat, ↓reduceIte, List.reduceReplicate, Nat.reduceAdd, Nat.reduceSub, Nat.reduceMul, Nat.reduceLT, Nat.reduceLeDiff, Nat.reduceBEq, Nat.reduceEqDiff, e1]
    exact ⟨0, false, rfl, by simp [Vg.isVy, h0], fun h => by cases h⟩
  have e1 : ((l.length : Int) = 0) = False := eq_false (by omega)
  have eA : IntKind.i64.wrap ((g.t : Int) + (l.length : Int)) = ((g.t + l.length : Nat) : Int) := (wrap_id (by omega)).trans (by omega)
  by_cases h1 : g.t + l.length > g.c.tide.length
  · have e2 : (((g.t + l.length : Nat) : Int) > (g.c.tide.length : Int)) = True := eq_true (by omega)
    simp (config := { maxSteps := 4000000 }) only [↓sx0, ↓sx1, ↓sx2, ↓sx3, ↓sx4, ↓sx5, ↓sx6, sx0, sx1, sx2, sx3, sx4, sx5, sx6, tf19, ev3_hold, sxo, sxc, sxp, sxq, sxr, sxs, sxl, sxm, Int.reduceBEq, Int.reduceBNe, Int.reduceLT, Int.reduceLE, Int.reduceEq, Int.reduceGT, Int.reduceGE, Int.reduceToNat, ↓reduceIte, List.reduceReplicate, Nat.reduceAdd, Nat.reduceSub, Nat.reduceMul, Nat.reduceLT, Nat.reduceLeDiff, Nat.reduceBEq, Nat.reduceEqDiff, e1, eA, e2]
    refine ⟨0, false, rfl, ?_, fun h => by cases h⟩
    simp only [Bool.false_eq_true, false_iff]
    intro h
    have := h.2.1
    omega
  have e2 : (((g.t + l.length : Nat) : Int) > (g.c.tide.length : Int)) = False := eq_false (by omega)
  have eB : IntKind.i64.wrap ((l.length : Int) - 1) = ((l.length - 1 : Nat) : Int) := (wrap_id (by omega)).trans (by omega)
  have eC : IntKind.i64.wrap (((g.t + l.length : Nat) : Int) - 1) = ((g.t + l.length - 1 : Nat) : Int) := (wrap_id (by omega)).trans (by omega)
  have hu : ∀ i, i < l.length → l[i]? = some (l.getD i 0) := fun i hi => getD_at hi 0
  have hu0 := hu 0 (by omega)
  have hue := hu (l.length - 1) (by omega)
  by_cases h2 : l.getD 0 0 = g.k
  case neg =>
    have e3 : (l.getD 0 0 = r.cell) = False := eq_false (by omega)
    simp (config := { maxSteps := 4000000 }) only [↓sx0, ↓sx1, ↓sx2, ↓sx3, ↓sx4, ↓sx5, ↓sx6, sx0, sx1, sx2, sx3, sx4, sx5, sx6, tf19, ev3_hold, sxo, sxc, sxp, sxq, sxr, sxs, sxl, sxm, Int.reduceBEq, Int.reduceBNe, Int.reduceLT, Int.reduceLE, Int.reduceEq, Int.reduceGT, Int.reduceGE, Int.reduceToNat, ↓reduceIte, List.reduceReplicate, Nat.reduceAdd, Nat.reduceSub, Nat.reduceMul, Nat.reduceLT, Nat.reduceLeDiff, Nat.reduceBEq, Nat.reduceEqDiff, e1, eA, e2]
    refine at_10 (hrl _) i1_len hu0 rfl fun ad1 => ?_
    simp (config := { maxSteps := 4000000 }) only [↓sx0, ↓sx1, ↓sx2, ↓sx3, ↓sx4, ↓sx5, ↓sx6, sx0, sx1, sx2, sx3, sx4, sx5, sx6, tf19, ev3_hold, sxo, sxc, sxp, sxq, sxr, sxs, sxl, sxm, Int.reduceBEq, Int.reduceBNe, Int.reduceLT, Int.reduceLE, Int.reduceEq, Int.reduceGT, Int.reduceGE, Int.reduceToNat, ↓reduceIte, List.reduceReplicate, Nat.reduceAdd, Nat.reduceSub, Nat.reduceMul, Nat.reduceLT, Nat.reduceLeDiff, Nat.reduceBEq, Nat.reduceEqDiff, e3]
    refine ⟨0, false, rfl, ?_, fun h => by cases h⟩
    simp only [Bool.false_eq_true, false_iff]
    exact fun h => h2 h.2.2.1
  have e3 : (l.getD 0 0 = r.cell) = True := eq_true (by omega)
  simp (config := { maxSteps := 4000000 }) only [↓sx0, ↓sx1, ↓sx2, ↓sx3, ↓sx4, ↓sx5, ↓sx6, sx0, sx1, sx2, sx3, sx4, sx5, sx6, tf19, ev3_hold, sxo, sxc, sxp, sxq, sxr, sxs, sxl, sxm, Int.reduceBEq, Int.reduceBNe, Int.reduceLT, Int.reduceLE, Int.reduceEq, Int.reduceGT, Int.reduceGE, Int.reduceToNat, ↓reduceIte, List.reduceReplicate, Nat.reduceAdd, Nat.reduceSub, Nat.reduceMul, Nat.reduceLT, Nat.reduceLeDiff, Nat.reduceBEq, Nat.reduceEqDiff, e1, eA, e2]
  refine at_10 (hrl _) i1_len hu0 rfl fun ad1 => ?_
  simp (config := { maxSteps := 4000000 }) only [↓sx0, ↓sx1, ↓sx2, ↓sx3, ↓sx4, ↓sx5, ↓sx6, sx0, sx1, sx2, sx3, sx4, sx5, sx6, tf19, ev3_hold, sxo, sxc, sxp, sxq, sxr, sxs, sxl, sxm, Int.reduceBEq, Int.reduceBNe, Int.reduceLT, Int.reduceLE, Int.reduceEq, Int.reduceGT, Int.reduceGE, Int.reduceToNat, ↓reduceIte, List.reduceReplicate, Nat.reduceAdd, Nat.reduceSub, Nat.reduceMul, Nat.reduceLT, Nat.reduceLeDiff, Nat.reduceBEq, Nat.reduceEqDiff, e3, eB]
  refine at_1 (hrl _) i1_len hue rfl fun ad2 => ?_
  by_cases h3 : l.getD (l.length - 1) 0 = g.k
  case neg =>
    have e4 : (l.getD (l.length - 1) 0 = r.cell) = False := eq_false (by omega)
    simp (config := { maxSteps := 4000000 }) only [↓sx0, ↓sx1, ↓sx2, ↓sx3, ↓sx4, ↓sx5, ↓sx6, sx0, sx1, sx2, sx3, sx4, sx5, sx6, tf19, ev3_hold, sxo, sxc, sxp, sxq, sxr, sxs, sxl, sxm, Int.reduceBEq, Int.reduceBNe, Int.reduceLT, Int.reduceLE, Int.reduceEq, Int.reduceGT, Int.reduceGE, Int.reduceToNat, ↓reduceIte, List.reduceReplicate, Nat.reduceAdd, Nat.reduceSub, Nat.reduceMul, Nat.reduceLT, Nat.reduceLeDiff, Nat.reduceBEq, Nat.reduceEqDiff, e4]
    refine ⟨0, false, rfl, ?_, fun h => by cases h⟩
    simp only [Bool.false_eq_true, false_iff]
    exact fun h => h3 h.2.2.2.1
  have e4 : (l.getD (l.length - 1) 0 = r.cell) = True := eq_true (by omega)
  simp (config := { maxSteps := 4000000 }) only [↓sx0, ↓sx1, ↓sx2, ↓sx3, ↓sx4, ↓sx5, ↓sx6, sx0, sx1, sx2, sx3, sx4, sx5, sx6, tf19, ev3_hold, sxo, sxc, sxp, sxq, sxr, sxs, sxl, sxm, Int.reduceBEq, Int.reduceBNe, Int.reduceLT, Int.reduceLE, Int.reduceEq, Int.reduceGT, Int.reduceGE, Int.reduceToNat, ↓reduceIte, List.reduceReplicate, Nat.reduceAdd, Nat.reduceSub, Nat.reduceMul, Nat.reduceLT, Nat.reduceLeDiff, Nat.reduceBEq, Nat.reduceEqDiff, e4, dn]
  refine CallOb.pureH (fun w' hp => hry g.t ht0 _ w' hp) ?_
  rintro q N rfl
  cases h4 : rdyB g.c g.b r g.t with
  | false =>
    refine ⟨?_⟩
    simp (config := { maxSteps := 4000000 }) only [↓sx0, ↓sx1, ↓sx2, ↓sx3, ↓sx4, ↓sx5, ↓sx6, sx0, sx1, sx2, sx3, sx4, sx5, sx6, tf19, ev3_hold, sxo, sxc, sxp, sxq, sxr, sxs, sxl, sxm, Int.reduceBEq, Int.reduceBNe, Int.reduceLT, Int.reduceLE, Int.reduceEq, Int.reduceGT, Int.reduceGE, Int.reduceToNat, ↓reduceIte, List.reduceReplicate, Nat.reduceAdd, Nat.reduceSub, Nat.reduceMul, Nat.reduceLT, Nat.reduceLeDiff, Nat.reduceBEq, Nat.reduceEqDiff]
    refine ⟨0, false, rfl, ?_, fun h => by cases h⟩
    simp only [Bool.false_eq_true, false_iff]
    intro h
    have := h.2.2.2.2.1
    rw [h4] at this
    cases this
  | true =>
  refine ⟨?_⟩
  simp (config := { maxSteps := 4000000 }) only [↓sx0, ↓sx1, ↓sx2, ↓sx3, ↓sx4, ↓sx5, ↓sx6, sx0, sx1, sx2, sx3, sx4, sx5, sx6, tf19, ev3_hold, sxo, sxc, sxp, sxq, sxr, sxs, sxl, sxm, Int.reduceBEq, Int.reduceBNe, Int.reduceLT, Int.reduceLE, Int.reduceEq, Int.reduceGT, Int.reduceGE, Int.reduceToNat, ↓reduceIte, List.reduceReplicate, Nat.reduceAdd, Nat.reduceSub, Nat.reduceMul, Nat.reduceLT, Nat.reduceLeDiff, Nat.reduceBEq, Nat.reduceEqDiff, eA, eC, dn]
  refine CallOb.pureH (fun w' hp => hry (g.t + l.length - 1) (by omega) _ w' hp) ?_
  rintro q N rfl
  cases h5 : rdyB g.c g.b r (g.t + l.length - 1) with
  | false =>
    refine ⟨?_⟩
    simp (config := { maxSteps := 4000000 }) only [↓sx0, ↓sx1, ↓sx2, ↓sx3, ↓sx4, ↓sx5, ↓sx6, sx0, sx1, sx2, sx3, sx4, sx5, sx6, tf19, ev3_hold, sxo, sxc, sxp, sxq, sxr, sxs, sxl, sxm, Int.reduceBEq, Int.reduceBNe, Int.reduceLT, Int.reduceLE, Int.reduceEq, Int.reduceGT, Int.reduceGE, Int.reduceToNat, ↓reduceIte, List.reduceReplicate, Nat.reduceAdd, Nat.reduceSub, Nat.reduceMul, Nat.reduceLT, Nat.reduceLeDiff, Nat.reduceBEq, Nat.reduceEqDiff]
    refine ⟨0, false, rfl, ?_, fun h => by cases h⟩
    simp only [Bool.false_eq_true, false_iff]
    intro h
    have := h.2.2.2.2.2.1
    rw [h5] at this
    cases this
  | true =>
  refine ⟨?_⟩
  simp (config := { maxSteps := 4000000 }) only [↓sx0, ↓sx1, ↓sx2, ↓sx3, ↓sx4, ↓sx5, ↓sx6, sx0, sx1, sx2, sx3, sx4, sx5, sx6, tf19, ev3_hold, sxo, sxc, sxp, sxq, sxr, sxs, sxl, sxm, Int.reduceBEq, Int.reduceBNe, Int.reduceLT, Int.reduceLE, Int.reduceEq, Int.reduceGT, Int.reduceGE, Int.reduceToNat, ↓reduceIte, List.reduceReplicate, Nat.reduceAdd, Nat.reduceSub, Nat.reduceMul, Nat.reduceLT, Nat.reduceLeDiff, Nat.reduceBEq, Nat.reduceEqDiff]
  refine loop_constH [] (HImp.nil _ _) [(12, 13), (15, 20), (71, 149)] (fun i : Nat => [(15, I (g.vst l i)), (16, I (g.vbn l i)), (17, I i)])
    (fun i H1 => i ≤ l.length ∧ g.vto l i ∧ H1 = []) (fun i => l.length - i) 0 ?_ ⟨Nat.zero_le _, fun j hj => by omega, rfl⟩ ?_
  · simp (config := { maxSteps := 4000000 }) only [↓sx0, ↓sx1, ↓sx2, ↓sx3, ↓sx4, ↓sx5, ↓sx6, sx0, sx1, sx2, sx3, sx4, sx5, sx6, tf19, ev3_hold, sxo, sxc, sxp, sxq, sxr, sxs, sxl, sxm, Int.reduceBEq, Int.reduceBNe, Int.reduceLT, Int.reduceLE, Int.reduceEq, Int.reduceGT, Int.reduceGE, Int.reduceToNat, ↓reduceIte, List.reduceReplicate, Nat.reduceAdd, Nat.reduceSub, Nat.reduceMul, Nat.reduceLT, Nat.reduceLeDiff, Nat.reduceBEq, Nat.reduceEqDiff, Vg.vst, Vg.vbn]
    try simp
  rintro i H1 g1 ⟨hi, hto, rfl⟩
  by_cases hil : i = l.length
  · have e7 : ((i : Int) < (l.length : Int)) = False := eq_false (by omega)
    have eD : IntKind.i64.wrap ((g.ts : Int) + 1) = (g.ts : Int) + 1 := wrap_id (by omega)
    refine ⟨?_⟩
    simp (config := { maxSteps := 4000000 }) only [↓sx0, ↓sx1, ↓sx2, ↓sx3, ↓sx4, ↓sx5, ↓sx6, sx0, sx1, sx2, sx3, sx4, sx5, sx6, tf19, ev3_hold, sxo, sxc, sxp, sxq, sxr, sxs, sxl, sxm, Int.reduceBEq, Int.reduceBNe, Int.reduceLT, Int.reduceLE, Int.reduceEq, Int.reduceGT, Int.reduceGE, Int.reduceToNat, ↓reduceIte, List.reduceReplicate, Nat.reduceAdd, Nat.reduceSub, Nat.reduceMul, Nat.reduceLT, Nat.reduceLeDiff, Nat.reduceBEq, Nat.reduceEqDiff, e7, eD]
    subst hil
    refine ⟨_, _, rfl, ?_, fun _ => rfl⟩
    rw [beq_iff_eq]
    exact ⟨fun h => ⟨by omega, by omega, h2, h3, h4, h5, hto, by omega⟩, fun h => by have := h.2.2.2.2.2.2.2; omega⟩
  have e7 : ((i : Int) < (l.length : Int)) = True := eq_true (by omega)
  have e8 : IntKind.i64.wrap ((i : Int) + 1) = ((i + 1 : Nat) : Int) := (wrap_id (by omega)).trans (by omega)
  have e9 : IntKind.i64.wrap ((g.t : Int) + (i : Int)) = ((g.t + i : Nat) : Int) := (wrap_id (by omega)).trans (by omega)
  have hui := hu i (by omega)
  have hbad : ∀ P : Prop, (P → False) → ∃ B bl, (.tuple #[I 0, .bool false] : Value) = .tuple #[I B, .bool bl] ∧ (bl = true ↔ P) ∧ (bl = true → B = g.vbn l l.length) := fun P h => ⟨0, false, rfl, by simp only [Bool.false_eq_true, false_iff]; exact h, fun h => by cases h⟩
  cases hcl : inB (l.getD i 0) 0 ((g.c.depth.length : Int) - 1) with
  | false =>
    refine ⟨?_⟩
    simp (config := { maxSteps := 4000000 }) only [↓sx0, ↓sx1, ↓sx2, ↓sx3, ↓sx4, ↓sx5, ↓sx6, sx0, sx1, sx2, sx3, sx4, sx5, sx6, tf19, ev3_hold, sxo, sxc, sxp, sxq, sxr, sxs, sxl, sxm, Int.reduceBEq, Int.reduceBNe, Int.reduceLT, Int.reduceLE, Int.reduceEq, Int.reduceGT, Int.reduceGE, Int.reduceToNat, ↓reduceIte, List.reduceReplicate, Nat.reduceAdd, Nat.reduceSub, Nat.reduceMul, Nat.reduceLT, Nat.reduceLeDiff, Nat.reduceBEq, Nat.reduceEqDiff, e7]
    refine amid (at_1 (hrl _) i1_len hui rfl fun ad1 => ?_)
    simp (config := { maxSteps := 4000000 }) only [↓sx0, ↓sx1, ↓sx2, ↓sx3, ↓sx4, ↓sx5, ↓sx6, sx0, sx1, sx2, sx3, sx4, sx5, sx6, tf19, ev3_hold, sxo, sxc, sxp, sxq, sxr, sxs, sxl, sxm, Int.reduceBEq, Int.reduceBNe, Int.reduceLT, Int.reduceLE, Int.reduceEq, Int.reduceGT, Int.reduceGE, Int.reduceToNat, ↓reduceIte, List.reduceReplicate, Nat.reduceAdd, Nat.reduceSub, Nat.reduceMul, Nat.reduceLT, Nat.reduceLeDiff, Nat.reduceBEq, Nat.reduceEqDiff, hci, hcl]
    refine hbad _ fun h => ?_
    have h9 := (h.2.2.2.2.2.2.1 i (by omega)).1
    rw [(inB_iff _ _ _).2 (by omega)] at hcl
    cases hcl
  | true =>
  have hrg := (inB_iff _ _ _).1 hcl
  obtain ⟨x, hx⟩ : ∃ x : Nat, l.getD i 0 = (x : Int) := ⟨(l.getD i 0).toNat, by omega⟩
  have hxc : Vg.ct l i = x := by unfold Vg.ct; omega
  rw [hx] at hui hcl hrg
  refine ⟨?_⟩
  simp (config := { maxSteps := 4000000 }) only [↓sx0, ↓sx1, ↓sx2, ↓sx3, ↓sx4, ↓sx5, ↓sx6, sx0, sx1, sx2, sx3, sx4, sx5, sx6, tf19, ev3_hold, sxo, sxc, sxp, sxq, sxr, sxs, sxl, sxm, Int.reduceBEq, Int.reduceBNe, Int.reduceLT, Int.reduceLE, Int.reduceEq, Int.reduceGT, Int.reduceGE, Int.reduceToNat, ↓reduceIte, List.reduceReplicate, Nat.reduceAdd, Nat.reduceSub, Nat.reduceMul, Nat.reduceLT, Nat.reduceLeDiff, Nat.reduceBEq, Nat.reduceEqDiff, e7]
  refine amid (at_1 (hrl _) i1_len hui rfl fun ad1 => ?_)
  simp (config := { maxSteps := 4000000 }) only [↓sx0, ↓sx1, ↓sx2, ↓sx3, ↓sx4, ↓sx5, ↓sx6, sx0, sx1, sx2, sx3, sx4, sx5, sx6, tf19, ev3_hold, sxo, sxc, sxp, sxq, sxr, sxs, sxl, sxm, Int.reduceBEq, Int.reduceBNe, Int.reduceLT, Int.reduceLE, Int.reduceEq, Int.reduceGT, Int.reduceGE, Int.reduceToNat, ↓reduceIte, List.reduceReplicate, Nat.reduceAdd, Nat.reduceSub, Nat.reduceMul, Nat.reduceLT, Nat.reduceLeDiff, Nat.reduceBEq, Nat.reduceEqDiff, hci, hcl]
  refine at_1 (hrl _) i1_len hui rfl fun ad2 => ?_
  simp (config := { maxSteps := 4000000 }) only [↓sx0, ↓sx1, ↓sx2, ↓sx3, ↓sx4, ↓sx5, ↓sx6, sx0, sx1, sx2, sx3, sx4, sx5, sx6, tf19, ev3_hold, sxo, sxc, sxp, sxq, sxr, sxs, sxl, sxm, Int.reduceBEq, Int.reduceBNe, Int.reduceLT, Int.reduceLE, Int.reduceEq, Int.reduceGT, Int.reduceGE, Int.reduceToNat, ↓reduceIte, List.reduceReplicate, Nat.reduceAdd, Nat.reduceSub, Nat.reduceMul, Nat.reduceLT, Nat.reduceLeDiff, Nat.reduceBEq, Nat.reduceEqDiff, e9, dn]
  refine CallOb.pureH (fun w' hp => hsd x (g.t + i) (by omega) (by omega) _ w' hp) ?_
  rintro q N rfl
  cases hcn : canB g.c g.b (g.t + i) x with
  | false =>
    refine ⟨?_⟩
    simp (config := { maxSteps := 4000000 }) only [↓sx0, ↓sx1, ↓sx2, ↓sx3, ↓sx4, ↓sx5, ↓sx6, sx0, sx1, sx2, sx3, sx4, sx5, sx6, tf19, ev3_hold, sxo, sxc, sxp, sxq, sxr, sxs, sxl, sxm, Int.reduceBEq, Int.reduceBNe, Int.reduceLT, Int.reduceLE, Int.reduceEq, Int.reduceGT, Int.reduceGE, Int.reduceToNat, ↓reduceIte, List.reduceReplicate, Nat.reduceAdd, Nat.reduceSub, Nat.reduceMul, Nat.reduceLT, Nat.reduceLeDiff, Nat.reduceBEq, Nat.reduceEqDiff]
    refine hbad _ fun h => ?_
    have h9 := (h.2.2.2.2.2.2.1 i (by omega)).2.1
    rw [hxc, hcn] at h9
    cases h9
  | true =>
  refine ⟨?_⟩
  simp (config := { maxSteps := 4000000 }) only [↓sx0, ↓sx1, ↓sx2, ↓sx3, ↓sx4, ↓sx5, ↓sx6, sx0, sx1, sx2, sx3, sx4, sx5, sx6, tf19, ev3_hold, sxo, sxc, sxp, sxq, sxr, sxs, sxl, sxm, Int.reduceBEq, Int.reduceBNe, Int.reduceLT, Int.reduceLE, Int.reduceEq, Int.reduceGT, Int.reduceGE, Int.reduceToNat, ↓reduceIte, List.reduceReplicate, Nat.reduceAdd, Nat.reduceSub, Nat.reduceMul, Nat.reduceLT, Nat.reduceLeDiff, Nat.reduceBEq, Nat.reduceEqDiff]
  refine at_1 (hrl _) i1_len hui rfl fun ad3 => ?_
  simp (config := { maxSteps := 4000000 }) only [↓sx0, ↓sx1, ↓sx2, ↓sx3, ↓sx4, ↓sx5, ↓sx6, sx0, sx1, sx2, sx3, sx4, sx5, sx6, tf19, ev3_hold, sxo, sxc, sxp, sxq, sxr, sxs, sxl, sxm, Int.reduceBEq, Int.reduceBNe, Int.reduceLT, Int.reduceLE, Int.reduceEq, Int.reduceGT, Int.reduceGE, Int.reduceToNat, ↓reduceIte, List.reduceReplicate, Nat.reduceAdd, Nat.reduceSub, Nat.reduceMul, Nat.reduceLT, Nat.reduceLeDiff, Nat.reduceBEq, Nat.reduceEqDiff, dn]
  refine CallOb.pureH (fun w' hp => hsy x (g.vst l i) (by have := hvs i; omega) _ w' hp) ?_
  rintro q N2 rfl
  have hst : stN g.tc g.ts x (g.vst l i) = (g.vst l (i + 1) : Nat) := by rw [g.st_stN, Vg.vst, hxc]
  rw [hst]
  by_cases hi0 : i = 0
  · subst hi0
    have f0 : (((0 : Nat) : Int) = 0) = True := eq_true rfl
    refine ⟨?_⟩
    simp (config := { maxSteps := 4000000 }) only [↓sx0, ↓sx1, ↓sx2, ↓sx3, ↓sx4, ↓sx5, ↓sx6, sx0, sx1, sx2, sx3, sx4, sx5, sx6, tf19, ev3_hold, sxo, sxc, sxp, sxq, sxr, sxs, sxl, sxm, Int.reduceBEq, Int.reduceBNe, Int.reduceLT, Int.reduceLE, Int.reduceEq, Int.reduceGT, Int.reduceGE, Int.reduceToNat, ↓reduceIte, List.reduceReplicate, Nat.reduceAdd, Nat.reduceSub, Nat.reduceMul, Nat.reduceLT, Nat.reduceLeDiff, Nat.reduceBEq, Nat.reduceEqDiff, f0, e8]
    refine ⟨0 + 1, _, ⟨rfl, rfl, rfl⟩, HImp.nil _ _, ⟨by omega, fun j hj => ?_, rfl⟩, by omega⟩
    obtain rfl : j = 0 := by omega
    exact ⟨by omega, by rw [hxc]; exact hcn, fun h => by omega⟩
  have f0 : ((i : Int) = 0) = False := eq_false (by omega)
  have f1 : IntKind.i64.wrap ((i : Int) - 1) = ((i - 1 : Nat) : Int) := (wrap_id (by omega)).trans (by omega)
  have hpr := (hto (i - 1) (by omega)).1
  obtain ⟨y, hy⟩ : ∃ y : Nat, l.getD (i - 1) 0 = (y : Int) := ⟨(l.getD (i - 1) 0).toNat, by omega⟩
  have hyc : Vg.ct l (i - 1) = y := by unfold Vg.ct; omega
  have hup := hu (i - 1) (by omega)
  rw [hy] at hup
  refine ⟨?_⟩
  simp (config := { maxSteps := 4000000 }) only [↓sx0, ↓sx1, ↓sx2, ↓sx3, ↓sx4, ↓sx5, ↓sx6, sx0, sx1, sx2, sx3, sx4, sx5, sx6, tf19, ev3_hold, sxo, sxc, sxp, sxq, sxr, sxs, sxl, sxm, Int.reduceBEq, Int.reduceBNe, Int.reduceLT, Int.reduceLE, Int.reduceEq, Int.reduceGT, Int.reduceGE, Int.reduceToNat, ↓reduceIte, List.reduceReplicate, Nat.reduceAdd, Nat.reduceSub, Nat.reduceMul, Nat.reduceLT, Nat.reduceLeDiff, Nat.reduceBEq, Nat.reduceEqDiff, f0]
  refine at_1 (hrl _) i1_len hui rfl fun ad4 => ?_
  simp (config := { maxSteps := 4000000 }) only [↓sx0, ↓sx1, ↓sx2, ↓sx3, ↓sx4, ↓sx5, ↓sx6, sx0, sx1, sx2, sx3, sx4, sx5, sx6, tf19, ev3_hold, sxo, sxc, sxp, sxq, sxr, sxs, sxl, sxm, Int.reduceBEq, Int.reduceBNe, Int.reduceLT, Int.reduceLE, Int.reduceEq, Int.reduceGT, Int.reduceGE, Int.reduceToNat, ↓reduceIte, List.reduceReplicate, Nat.reduceAdd, Nat.reduceSub, Nat.reduceMul, Nat.reduceLT, Nat.reduceLeDiff, Nat.reduceBEq, Nat.reduceEqDiff, dn]
  refine CallOb.pureH (fun w' hp => hnr x (by omega) _ w' hp) ?_
  rintro q N3 hN3
  obtain ⟨an, cn, rfl⟩ := hN3.shape
  have hrn := fun H (hH : ∀ h ∈ N3, h ∈ H) => hN3.rdv (w0 := ⟨w, fun _ => False⟩) (H := H) i1_len hH
  obtain ⟨NB, hNB⟩ : ∃ NB, nbL g.c.W g.c.H x = NB := ⟨_, rfl⟩
  rw [hNB] at hrn ⊢
  have hNl : (nts NB).length = NB.length := by unfold nts; rw [List.length_map]
  rw [hNl] at hrn ⊢
  have hN7 : NB.length ≤ 7 := by rw [← hNB]; exact nbL_len _ _ _
  refine ⟨?_⟩
  simp (config := { maxSteps := 4000000 }) only [↓sx0, ↓sx1, ↓sx2, ↓sx3, ↓sx4, ↓sx5, ↓sx6, sx0, sx1, sx2, sx3, sx4, sx5, sx6, tf19, ev3_hold, sxo, sxc, sxp, sxq, sxr, sxs, sxl, sxm, Int.reduceBEq, Int.reduceBNe, Int.reduceLT, Int.reduceLE, Int.reduceEq, Int.reduceGT, Int.reduceGE, Int.reduceToNat, ↓reduceIte, List.reduceReplicate, Nat.reduceAdd, Nat.reduceSub, Nat.reduceMul, Nat.reduceLT, Nat.reduceLeDiff, Nat.reduceBEq, Nat.reduceEqDiff]
  refine loop_constH N3 (HImp.sub (List.sublist_append_left _ _)) [(18, 18), (20, 20), (111, 129)] (fun q : Nat × Bool => [(18, .bool q.2), (20, I q.1)])
    (fun q H1 => q.1 ≤ NB.length ∧ (q.2 = true ↔ ∃ e, e < q.1 ∧ NB[e]? = some y) ∧ H1 = N3) (fun q => NB.length - q.1) (0, false) ?_ ⟨Nat.zero_le _, ⟨(fun h => by cases h), (fun ⟨e, h, _⟩ => by simp only [] at h; omega)⟩, rfl⟩ ?_
  · simp (config := { maxSteps := 4000000 }) only [↓sx0, ↓sx1, ↓sx2, ↓sx3, ↓sx4, ↓sx5, ↓sx6, sx0, sx1, sx2, sx3, sx4, sx5, sx6, tf19, ev3_hold, sxo, sxc, sxp, sxq, sxr, sxs, sxl, sxm, Int.reduceBEq, Int.reduceBNe, Int.reduceLT, Int.reduceLE, Int.reduceEq, Int.reduceGT, Int.reduceGE, Int.reduceToNat, ↓reduceIte, List.reduceReplicate, Nat.reduceAdd, Nat.reduceSub, Nat.reduceMul, Nat.reduceLT, Nat.reduceLeDiff, Nat.reduceBEq, Nat.reduceEqDiff]
    try simp
  rintro ⟨d, bs⟩ H2 g2 hinv2
  simp only [] at hinv2
  obtain ⟨hd, hbs, hH2⟩ := hinv2
  have hH3 := hH2.symm
  subst hH3
  have hrn2 := hrn N3 (fun h hm => hm)
  by_cases hdl : d = NB.length
  case neg =>
    have k1 : ((d : Int) < (NB.length : Int)) = True := eq_true (by omega)
    have k2 : IntKind.i64.wrap ((d : Int) + 1) = ((d + 1 : Nat) : Int) := (wrap_id (by omega)).trans (by omega)
    obtain ⟨z, hz⟩ : ∃ z, NB[d]? = some z := ⟨_, List.getElem?_eq_getElem (by omega)⟩
    have hzn : (nts NB)[d]? = some (z : Int) := by unfold nts; rw [List.getElem?_map, hz]; rfl
    cases bs with
    | true =>
      refine ⟨?_⟩
      simp (config := { maxSteps := 4000000 }) only [↓sx0, ↓sx1, ↓sx2, ↓sx3, ↓sx4, ↓sx5, ↓sx6, sx0, sx1, sx2, sx3, sx4, sx5, sx6, tf19, ev3_hold, sxo, sxc, sxp, sxq, sxr, sxs, sxl, sxm, Int.reduceBEq, Int.reduceBNe, Int.reduceLT, Int.reduceLE, Int.reduceEq, Int.reduceGT, Int.reduceGE, Int.reduceToNat, ↓reduceIte, List.reduceReplicate, Nat.reduceAdd, Nat.reduceSub, Nat.reduceMul, Nat.reduceLT, Nat.reduceLeDiff, Nat.reduceBEq, Nat.reduceEqDiff, k1, k2]
      obtain ⟨e, he1, he2⟩ := hbs.1 rfl
      exact ⟨(d + 1, true), _, ⟨rfl, rfl⟩, HImp.refl _ _, ⟨by simp only []; omega, ⟨fun _ => ⟨e, by simp only []; omega, he2⟩, fun _ => rfl⟩, rfl⟩, by simp only []; omega⟩
    | false =>
      have hno : ∀ e, e < d → NB[e]? ≠ some y := fun e h1 h2 => by have := hbs.2 ⟨e, h1, h2⟩; cases this
      refine ⟨?_⟩
      simp (config := { maxSteps := 4000000 }) only [↓sx0, ↓sx1, ↓sx2, ↓sx3, ↓sx4, ↓sx5, ↓sx6, sx0, sx1, sx2, sx3, sx4, sx5, sx6, tf19, ev3_hold, sxo, sxc, sxp, sxq, sxr, sxs, sxl, sxm, Int.reduceBEq, Int.reduceBNe, Int.reduceLT, Int.reduceLE, Int.reduceEq, Int.reduceGT, Int.reduceGE, Int.reduceToNat, ↓reduceIte, List.reduceReplicate, Nat.reduceAdd, Nat.reduceSub, Nat.reduceMul, Nat.reduceLT, Nat.reduceLeDiff, Nat.reduceBEq, Nat.reduceEqDiff, k1]
      refine amid (at_1 hrn2 i1_len hzn rfl fun ad5 => ?_)
      simp (config := { maxSteps := 4000000 }) only [↓sx0, ↓sx1, ↓sx2, ↓sx3, ↓sx4, ↓sx5, ↓sx6, sx0, sx1, sx2, sx3, sx4, sx5, sx6, tf19, ev3_hold, sxo, sxc, sxp, sxq, sxr, sxs, sxl, sxm, Int.reduceBEq, Int.reduceBNe, Int.reduceLT, Int.reduceLE, Int.reduceEq, Int.reduceGT, Int.reduceGE, Int.reduceToNat, ↓reduceIte, List.reduceReplicate, Nat.reduceAdd, Nat.reduceSub, Nat.reduceMul, Nat.reduceLT, Nat.reduceLeDiff, Nat.reduceBEq, Nat.reduceEqDiff, f1]
      refine at_1 (hrl _) i1_len hup rfl fun ad6 => ?_
      simp (config := { maxSteps := 4000000 }) only [↓sx0, ↓sx1, ↓sx2, ↓sx3, ↓sx4, ↓sx5, ↓sx6, sx0, sx1, sx2, sx3, sx4, sx5, sx6, tf19, ev3_hold, sxo, sxc, sxp, sxq, sxr, sxs, sxl, sxm, Int.reduceBEq, Int.reduceBNe, Int.reduceLT, Int.reduceLE, Int.reduceEq, Int.reduceGT, Int.reduceGE, Int.reduceToNat, ↓reduceIte, List.reduceReplicate, Nat.reduceAdd, Nat.reduceSub, Nat.reduceMul, Nat.reduceLT, Nat.reduceLeDiff, Nat.reduceBEq, Nat.reduceEqDiff, k2]
      refine ⟨(d + 1, decide ((z : Int) = (y : Int))), _, ⟨rfl, rfl⟩, HImp.refl _ _, ⟨by simp only []; omega, ?_, rfl⟩, by simp only []; omega⟩
      simp only [decide_eq_true_eq]
      constructor
      · intro h
        exact ⟨d, by omega, by rw [hz]; congr 1; omega⟩
      · rintro ⟨e, h1, h2⟩
        by_cases he : e = d
        · subst he
          rw [hz] at h2
          cases h2
          rfl
        · exact absurd h2 (hno e (by omega))
  subst hdl
  have k1 : ((NB.length : Int) < (NB.length : Int)) = False := eq_false (by omega)
  have hmem : bs = true ↔ y ∈ nbL g.c.W g.c.H x := by
    rw [hbs, hNB]
    constructor
    · rintro ⟨e, _, h⟩
      exact List.mem_of_getElem? h
    · intro h
      obtain ⟨e, he, h⟩ := List.mem_iff_getElem.1 h
      exact ⟨e, he, by rw [List.getElem?_eq_getElem he, h]⟩
  clear hbs
  cases bs with
  | false =>
    refine ⟨?_⟩
    simp (config := { maxSteps := 4000000 }) only [↓sx0, ↓sx1, ↓sx2, ↓sx3, ↓sx4, ↓sx5, ↓sx6, sx0, sx1, sx2, sx3, sx4, sx5, sx6, tf19, ev3_hold, sxo, sxc, sxp, sxq, sxr, sxs, sxl, sxm, Int.reduceBEq, Int.reduceBNe, Int.reduceLT, Int.reduceLE, Int.reduceEq, Int.reduceGT, Int.reduceGE, Int.reduceToNat, ↓reduceIte, List.reduceReplicate, Nat.reduceAdd, Nat.reduceSub, Nat.reduceMul, Nat.reduceLT, Nat.reduceLeDiff, Nat.reduceBEq, Nat.reduceEqDiff, k1]
    refine hbad _ fun h => ?_
    have h9 := (h.2.2.2.2.2.2.1 i (by omega)).2.2 (by omega)
    rw [hxc, hyc] at h9
    have := hmem.2 h9
    cases this
  | true =>
  have hym := hmem.1 rfl
  clear hmem
  have hvto : g.vto l (i + 1) := fun j hj => by
    by_cases hji : j = i
    · subst hji
      exact ⟨by omega, by rw [hxc]; exact hcn, fun _ => by rw [hxc, hyc]; exact hym⟩
    · exact hto j (by omega)
  obtain ⟨i', rfl⟩ : ∃ i', i = i' + 1 := ⟨i - 1, by omega⟩
  have hbn : g.vbn l (i' + 1 + 1) = g.vbn l (i' + 1) + g.wg y x := by
    rw [Vg.vbn, hxc, ← hyc]
    rfl
  have hb1 := hvb (i' + 1)
  refine ⟨?_⟩
  simp (config := { maxSteps := 4000000 }) only [↓sx0, ↓sx1, ↓sx2, ↓sx3, ↓sx4, ↓sx5, ↓sx6, sx0, sx1, sx2, sx3, sx4, sx5, sx6, tf19, ev3_hold, sxo, sxc, sxp, sxq, sxr, sxs, sxl, sxm, Int.reduceBEq, Int.reduceBNe, Int.reduceLT, Int.reduceLE, Int.reduceEq, Int.reduceGT, Int.reduceGE, Int.reduceToNat, ↓reduceIte, List.reduceReplicate, Nat.reduceAdd, Nat.reduceSub, Nat.reduceMul, Nat.reduceLT, Nat.reduceLeDiff, Nat.reduceBEq, Nat.reduceEqDiff, k1]
  refine at_1 (hrl _) i1_len hui rfl fun ad7 => ?_
  simp (config := { maxSteps := 4000000 }) only [↓sx0, ↓sx1, ↓sx2, ↓sx3, ↓sx4, ↓sx5, ↓sx6, sx0, sx1, sx2, sx3, sx4, sx5, sx6, tf19, ev3_hold, sxo, sxc, sxp, sxq, sxr, sxs, sxl, sxm, Int.reduceBEq, Int.reduceBNe, Int.reduceLT, Int.reduceLE, Int.reduceEq, Int.reduceGT, Int.reduceGE, Int.reduceToNat, ↓reduceIte, List.reduceReplicate, Nat.reduceAdd, Nat.reduceSub, Nat.reduceMul, Nat.reduceLT, Nat.reduceLeDiff, Nat.reduceBEq, Nat.reduceEqDiff, f1]
  refine at_1 (hrl _) i1_len hup rfl fun ad8 => ?_
  by_cases hxy : x = y
  · have m1 : ((x : Int) = (y : Int)) = True := eq_true (by omega)
    have hwg : g.wg y x = g.b.idle := by unfold Vg.wg; rw [if_pos hxy]
    have m2 : IntKind.i64.wrap (g.vbn l (i' + 1) + g.b.idle) = g.vbn l (i' + 1 + 1) := (wrap_id (by omega)).trans (by rw [hbn, hwg])
    simp (config := { maxSteps := 4000000 }) only [↓sx0, ↓sx1, ↓sx2, ↓sx3, ↓sx4, ↓sx5, ↓sx6, sx0, sx1, sx2, sx3, sx4, sx5, sx6, tf19, ev3_hold, sxo, sxc, sxp, sxq, sxr, sxs, sxl, sxm, Int.reduceBEq, Int.reduceBNe, Int.reduceLT, Int.reduceLE, Int.reduceEq, Int.reduceGT, Int.reduceGE, Int.reduceToNat, ↓reduceIte, List.reduceReplicate, Nat.reduceAdd, Nat.reduceSub, Nat.reduceMul, Nat.reduceLT, Nat.reduceLeDiff, Nat.reduceBEq, Nat.reduceEqDiff, m1, m2, e8]
    exact ⟨i' + 1 + 1, _, ⟨rfl, rfl, rfl⟩, HImp.nil _ _, ⟨by omega, hvto, rfl⟩, by omega⟩
  · have m1 : ((x : Int) = (y : Int)) = False := eq_false (by omega)
    have hwg : g.wg y x = g.b.move := by unfold Vg.wg; rw [if_neg hxy]
    have m2 : IntKind.i64.wrap (g.vbn l (i' + 1) + g.b.move) = g.vbn l (i' + 1 + 1) := (wrap_id (by omega)).trans (by rw [hbn, hwg])
    simp (config := { maxSteps := 4000000 }) only [↓sx0, ↓sx1, ↓sx2, ↓sx3, ↓sx4, ↓sx5, ↓sx6, sx0, sx1, sx2, sx3, sx4, sx5, sx6, tf19, ev3_hold, sxo, sxc, sxp, sxq, sxr, sxs, sxl, sxm, Int.reduceBEq, Int.reduceBNe, Int.reduceLT, Int.reduceLE, Int.reduceEq, Int.reduceGT, Int.reduceGE, Int.reduceToNat, ↓reduceIte, List.reduceReplicate, Nat.reduceAdd, Nat.reduceSub, Nat.reduceMul, Nat.reduceLT, Nat.reduceLeDiff, Nat.reduceBEq, Nat.reduceEqDiff, m1, m2, e8]
    exact ⟨i' + 1 + 1, _, ⟨rfl, rfl, rfl⟩, HImp.nil _ _, ⟨by omega, hvto, rfl⟩, by omega⟩
end Go.Proofs.YtcnlbnccbnapbaaDoor
