/- A part of a proof: the symbolic walk and what it shows of single functions. -/
import Derived.Test.YtlbcgkoncnablaaSlD
set_option linter.all false
namespace Go.Proofs.Ytlbcgkoncnablaa
open Go.RowKit Go.SX
set_option maxRecDepth 10000
set_option maxHeartbeats 4000000
set_option linter.unusedSimpArgs false
set_option linter.unusedVariables false

/-! ### Drills, as the document has them -/

theorem keptN_eq (hands : Int) (n : Nat) (tick : Int) : keptN hands n [tick] = if inB hands 1 10 && inB tick (-200) 400 then (if (n : Int) > 200 then 2 else 0) else 1 := by
  unfold keptN
  rw [List.any_cons, List.any_nil, Bool.or_false]
  cases inB hands 1 10 <;> cases inB tick (-200) 400 <;> rfl

theorem rcurrent_fn (w : World) (hands tick : Int) (v : Value) (l : List Pg) (hs : Sl w v 3 (cat pgc l)) (vg : Value) (good : List Int) (hg : Sl w vg 1 (ints good)) (hgb : good.length ≤ 1099511627776) :
    SX.Fn Try.prog 36 [I hands, v, vg, I tick] w (fun _ => False) fun r N => ∃ x, r = .tuple #[x, I (curE hands l good tick)] ∧ Got x 3 1 i1 (curL hands l good tick) N := by
  obtain ⟨a, n, c, rfl⟩ := hs.shape
  obtain ⟨ag, ng, cg, rfl⟩ := hg.shape
  have hn := hs.le pgc_len (by omega)
  have hng := hg.le i1_len (by omega)
  have hr := hs.rd0
  have hrg := hg.rd0
  have h1E : ∀ {x : Int}, x = 1 → curE hands l good tick = x → curE hands l good tick = 1 ∧ curL hands l good tick = [] := fun h e => ⟨by rw [e, h], by unfold curL; rw [e, h]; rfl⟩
  have hk := keptN_eq hands l.length tick
  cases c1 : inB hands 1 10 with
  | false =>
    have hq : curE hands l good tick = 1 := by
      unfold curE
      rw [hk, c1]
      simp
    rw [(h1E rfl hq).1, (h1E rfl hq).2]
    refine walk [] [] (detA_ok _ _) Try.func36 rfl Try.ntmps36 res36 (by kernel_rfl) no_facts ?_
    simp (config := { maxSteps := 4000000 }) only [↓sx0, ↓sx1, ↓sx2, ↓sx3, ↓sx4, ↓sx5, ↓sx6, sx0, sx1, sx2, sx3, sx4, sx5, sx6, tf36, ev3_hold, sxo, sxc, sxp, sxq, sxr, sxs, sxl, sxm, Int.reduceBEq, Int.reduceBNe, Int.reduceLT, Int.reduceLE, Int.reduceEq, Int.reduceGT, Int.reduceGE, Int.reduceToNat, ↓reduceIte, List.reduceReplicate, Nat.reduceAdd, Nat.reduceSub, Nat.reduceMul, Nat.reduceLT, Nat.reduceLeDiff, Nat.reduceBEq, Nat.reduceEqDiff, detA_eq, c1]
    exact ⟨_, rfl, Got.nil _⟩
  | true =>
  cases c2 : inB tick (-200) 400 with
  | false =>
    have hq : curE hands l good tick = 1 := by
      unfold curE
      rw [hk, c1, c2]
      simp
    rw [(h1E rfl hq).1, (h1E rfl hq).2]
    refine walk [] [] (detA_ok _ _) Try.func36 rfl Try.ntmps36 res36 (by kernel_rfl) no_facts ?_
    simp (config := { maxSteps := 4000000 }) only [↓sx0, ↓sx1, ↓sx2, ↓sx3, ↓sx4, ↓sx5, ↓sx6, sx0, sx1, sx2, sx3, sx4, sx5, sx6, tf36, ev3_hold, sxo, sxc, sxp, sxq, sxr, sxs, sxl, sxm, Int.reduceBEq, Int.reduceBNe, Int.reduceLT, Int.reduceLE, Int.reduceEq, Int.reduceGT, Int.reduceGE, Int.reduceToNat, ↓reduceIte, List.reduceReplicate, Nat.reduceAdd, Nat.reduceSub, Nat.reduceMul, Nat.reduceLT, Nat.reduceLeDiff, Nat.reduceBEq, Nat.reduceEqDiff, detA_eq, c1, c2]
    exact ⟨_, rfl, Got.nil _⟩
  | true =>
  by_cases c0 : ng = 8
  case neg =>
    have e0 : ((ng : Int) = 8) = False := eq_false (by omega)
    have hq : curE hands l good tick = 1 := by
      unfold curE goodB
      rw [decide_eq_false (by omega), Bool.false_and]
      rfl
    rw [(h1E rfl hq).1, (h1E rfl hq).2]
    refine walk [] [] (detA_ok _ _) Try.func36 rfl Try.ntmps36 res36 (by kernel_rfl) no_facts ?_
    simp (config := { maxSteps := 4000000 }) only [↓sx0, ↓sx1, ↓sx2, ↓sx3, ↓sx4, ↓sx5, ↓sx6, sx0, sx1, sx2, sx3, sx4, sx5, sx6, tf36, ev3_hold, sxo, sxc, sxp, sxq, sxr, sxs, sxl, sxm, Int.reduceBEq, Int.reduceBNe, Int.reduceLT, Int.reduceLE, Int.reduceEq, Int.reduceGT, Int.reduceGE, Int.reduceToNat, ↓reduceIte, List.reduceReplicate, Nat.reduceAdd, Nat.reduceSub, Nat.reduceMul, Nat.reduceLT, Nat.reduceLeDiff, Nat.reduceBEq, Nat.reduceEqDiff, detA_eq, c1, c2, e0]
    exact ⟨_, rfl, Got.nil _⟩
  have e0 : ((ng : Int) = 8) = True := eq_true (by omega)
  have hgd : goodB good = good.all fun n => inB n 0 400 := by
    unfold goodB
    rw [decide_eq_true (by omega)]
    rfl
  rw [c1, c2, Bool.and_self, if_pos rfl, hn] at hk
  have hE : (good.all fun n => inB n 0 400) = false → curE hands l good tick = 1 := fun h => by unfold curE; rw [hgd, h]; rfl
  have hL : (good.all fun n => inB n 0 400) = false → curL hands l good tick = [] := fun h => (h1E rfl (hE h)).2
  have hE2 : (good.all fun n => inB n 0 400) = true → (n : Int) > 200 → curE hands l good tick = 2 ∧ curL hands l good tick = [] := fun h h2 => by
    have : curE hands l good tick = 2 := by
      unfold curE
      rw [hgd, h, hn, hk, if_pos h2]
      rfl
    exact ⟨this, by unfold curL; rw [this]; rfl⟩
  have hE3 : (good.all fun n => inB n 0 400) = true → ¬ (n : Int) > 200 → curE hands l good tick = if l.all (drB hands) then 0 else 72 := fun h h2 => by
    unfold curE
    rw [hgd, h, hn, hk, if_neg h2]
    rfl
  have hh := (inB_iff _ _ _).1 c1
  have htick := (inB_iff _ _ _).1 c2
  have hz : zerosL hands.toNat [I 0] = ints (List.replicate hands.toNat 0) := zeros_cat i1 0 _
  have e8 : wr (hands - 1) = hands - 1 := wrap_id (by omega)
  refine walk [] [] (detA_ok _ _) Try.func36 rfl Try.ntmps36 res36 (by kernel_rfl) no_facts ?_
  simp (config := { maxSteps := 4000000 }) only [↓sx0, ↓sx1, ↓sx2, ↓sx3, ↓sx4, ↓sx5, ↓sx6, sx0, sx1, sx2, sx3, sx4, sx5, sx6, tf36, ev3_hold, sxo, sxc, sxp, sxq, sxr, sxs, sxl, sxm, Int.reduceBEq, Int.reduceBNe, Int.reduceLT, Int.reduceLE, Int.reduceEq, Int.reduceGT, Int.reduceGE, Int.reduceToNat, ↓reduceIte, List.reduceReplicate, Nat.reduceAdd, Nat.reduceSub, Nat.reduceMul, Nat.reduceLT, Nat.reduceLeDiff, Nat.reduceBEq, Nat.reduceEqDiff, detA_eq, c1, c2, e0]
  refine loop_constH [] (HImp.nil _ _) [(8, 10), (27, 38)] (fun k : Nat => [(8, .slice none 0 0), (9, I 0), (10, I k)]) (fun k H1 => k ≤ ng ∧ (good.all fun n => inB n 0 400) = ((good.drop k).all fun n => inB n 0 400)) (fun k => ng - k) 0 ?_ ⟨Nat.zero_le _, rfl⟩ ?_
  · simp (config := { maxSteps := 4000000 }) only [↓sx0, ↓sx1, ↓sx2, ↓sx3, ↓sx4, ↓sx5, ↓sx6, sx0, sx1, sx2, sx3, sx4, sx5, sx6, tf36, ev3_hold, sxo, sxc, sxp, sxq, sxr, sxs, sxl, sxm, Int.reduceBEq, Int.reduceBNe, Int.reduceLT, Int.reduceLE, Int.reduceEq, Int.reduceGT, Int.reduceGE, Int.reduceToNat, ↓reduceIte, List.reduceReplicate, Nat.reduceAdd, Nat.reduceSub, Nat.reduceMul, Nat.reduceLT, Nat.reduceLeDiff, Nat.reduceBEq, Nat.reduceEqDiff]
    simp
  rintro k0 H1 g1 ⟨hk0, ht0⟩
  by_cases hkg : k0 = ng
  case neg =>
    have e7 : ((k0 : Int) < (ng : Int)) = True := eq_true (by omega)
    have e2 : wr (k0 + 1) = ((k0 + 1 : Nat) : Int) := (wrap_id (by omega)).trans (by omega)
    have hkl : k0 < good.length := by omega
    have hu := List.getElem?_eq_getElem hkl
    rw [List.drop_eq_getElem_cons hkl, List.all_cons] at ht0
    generalize good[k0] = u at hu ht0
    cases d0 : inB u 0 400 with
    | false =>
      rw [d0, Bool.false_and] at ht0
      rw [hE ht0, hL ht0]
      refine ⟨?_⟩
      simp (config := { maxSteps := 4000000 }) only [↓sx0, ↓sx1, ↓sx2, ↓sx3, ↓sx4, ↓sx5, ↓sx6, sx0, sx1, sx2, sx3, sx4, sx5, sx6, tf36, ev3_hold, sxo, sxc, sxp, sxq, sxr, sxs, sxl, sxm, Int.reduceBEq, Int.reduceBNe, Int.reduceLT, Int.reduceLE, Int.reduceEq, Int.reduceGT, Int.reduceGE, Int.reduceToNat, ↓reduceIte, List.reduceReplicate, Nat.reduceAdd, Nat.reduceSub, Nat.reduceMul, Nat.reduceLT, Nat.reduceLeDiff, Nat.reduceBEq, Nat.reduceEqDiff, e7]
      refine amid (at_1 (hrg _) i1_len hu rfl fun ad => ?_)
      simp (config := { maxSteps := 4000000 }) only [↓sx0, ↓sx1, ↓sx2, ↓sx3, ↓sx4, ↓sx5, ↓sx6, sx0, sx1, sx2, sx3, sx4, sx5, sx6, tf36, ev3_hold, sxo, sxc, sxp, sxq, sxr, sxs, sxl, sxm, Int.reduceBEq, Int.reduceBNe, Int.reduceLT, Int.reduceLE, Int.reduceEq, Int.reduceGT, Int.reduceGE, Int.reduceToNat, ↓reduceIte, List.reduceReplicate, Nat.reduceAdd, Nat.reduceSub, Nat.reduceMul, Nat.reduceLT, Nat.reduceLeDiff, Nat.reduceBEq, Nat.reduceEqDiff, detA_eq, d0]
      exact ⟨_, rfl, Got.nil _⟩
    | true =>
      rw [d0, Bool.true_and] at ht0
      refine ⟨?_⟩
      simp (config := { maxSteps := 4000000 }) only [↓sx0, ↓sx1, ↓sx2, ↓sx3, ↓sx4, ↓sx5, ↓sx6, sx0, sx1, sx2, sx3, sx4, sx5, sx6, tf36, ev3_hold, sxo, sxc, sxp, sxq, sxr, sxs, sxl, sxm, Int.reduceBEq, Int.reduceBNe, Int.reduceLT, Int.reduceLE, Int.reduceEq, Int.reduceGT, Int.reduceGE, Int.reduceToNat, ↓reduceIte, List.reduceReplicate, Nat.reduceAdd, Nat.reduceSub, Nat.reduceMul, Nat.reduceLT, Nat.reduceLeDiff, Nat.reduceBEq, Nat.reduceEqDiff, e7]
      refine amid (at_1 (hrg _) i1_len hu rfl fun ad => ?_)
      simp (config := { maxSteps := 4000000 }) only [↓sx0, ↓sx1, ↓sx2, ↓sx3, ↓sx4, ↓sx5, ↓sx6, sx0, sx1, sx2, sx3, sx4, sx5, sx6, tf36, ev3_hold, sxo, sxc, sxp, sxq, sxr, sxs, sxl, sxm, Int.reduceBEq, Int.reduceBNe, Int.reduceLT, Int.reduceLE, Int.reduceEq, Int.reduceGT, Int.reduceGE, Int.reduceToNat, ↓reduceIte, List.reduceReplicate, Nat.reduceAdd, Nat.reduceSub, Nat.reduceMul, Nat.reduceLT, Nat.reduceLeDiff, Nat.reduceBEq, Nat.reduceEqDiff, detA_eq, d0, e2]
      exact ⟨k0 + 1, _, rfl, HImp.refl _ _, ⟨by omega, ht0⟩, by omega⟩
  have e70 : ((k0 : Int) < (ng : Int)) = False := eq_false (by omega)
  rw [List.drop_of_length_le (by omega), List.all_nil] at ht0
  by_cases c3 : (n : Int) > 200
  · have e3 : ((n : Int) > 200) = True := eq_true c3
    rw [(hE2 ht0 c3).1, (hE2 ht0 c3).2]
    refine ⟨?_⟩
    simp (config := { maxSteps := 4000000 }) only [↓sx0, ↓sx1, ↓sx2, ↓sx3, ↓sx4, ↓sx5, ↓sx6, sx0, sx1, sx2, sx3, sx4, sx5, sx6, tf36, ev3_hold, sxo, sxc, sxp, sxq, sxr, sxs, sxl, sxm, Int.reduceBEq, Int.reduceBNe, Int.reduceLT, Int.reduceLE, Int.reduceEq, Int.reduceGT, Int.reduceGE, Int.reduceToNat, ↓reduceIte, List.reduceReplicate, Nat.reduceAdd, Nat.reduceSub, Nat.reduceMul, Nat.reduceLT, Nat.reduceLeDiff, Nat.reduceBEq, Nat.reduceEqDiff, e70, e3]
    exact ⟨_, rfl, Got.nil _⟩
  have e3 : ((n : Int) > 200) = False := eq_false c3
  have hq := hE3 ht0 c3
  have hq2 : l.all (drB hands) = true → curL hands l good tick = l.foldl (curStep good tick) (List.replicate hands.toNat 0) := fun h => by unfold curL; rw [hq, h]; rfl
  have hq3 : l.all (drB hands) = false → curL hands l good tick = [] := fun h => by unfold curL; rw [hq, h]; rfl
  rw [hq]
  refine ⟨?_⟩
  simp (config := { maxSteps := 4000000 }) only [↓sx0, ↓sx1, ↓sx2, ↓sx3, ↓sx4, ↓sx5, ↓sx6, sx0, sx1, sx2, sx3, sx4, sx5, sx6, tf36, ev3_hold, sxo, sxc, sxp, sxq, sxr, sxs, sxl, sxm, Int.reduceBEq, Int.reduceBNe, Int.reduceLT, Int.reduceLE, Int.reduceEq, Int.reduceGT, Int.reduceGE, Int.reduceToNat, ↓reduceIte, List.reduceReplicate, Nat.reduceAdd, Nat.reduceSub, Nat.reduceMul, Nat.reduceLT, Nat.reduceLeDiff, Nat.reduceBEq, Nat.reduceEqDiff, e70, e3]
  refine ⟨by omega, by omega, by omega, ?_⟩
  intro b2
  rw [hz]
  refine loop_constH [.row (.slice (some ⟨b2, 0, none⟩) hands.toNat hands.toNat) 3 1 (ints (List.replicate hands.toNat 0))] (HImp.sub ((List.nil_sublist _).cons_cons _)) [(8, 9), (12, 13), (44, 101)] (fun x : Nat × List Int => [(8, .slice none 0 0), (9, I 0), (12, I x.1)])
    (fun x H1 => (x.1 ≤ n ∧ x.2.length = hands.toNat ∧ l.all (drB hands) = (l.drop x.1).all (drB hands) ∧ l.foldl (curStep good tick) (List.replicate hands.toNat 0) = (l.drop x.1).foldl (curStep good tick) x.2) ∧ H1 = [.row (.slice (some ⟨b2, 0, none⟩) hands.toNat hands.toNat) 3 1 (ints x.2)]) (fun x => n - x.1) (0, List.replicate hands.toNat 0) ?_ ⟨⟨Nat.zero_le _, List.length_replicate, rfl, rfl⟩, rfl⟩ ?_
  · simp (config := { maxSteps := 4000000 }) only [↓sx0, ↓sx1, ↓sx2, ↓sx3, ↓sx4, ↓sx5, ↓sx6, sx0, sx1, sx2, sx3, sx4, sx5, sx6, tf36, ev3_hold, sxo, sxc, sxp, sxq, sxr, sxs, sxl, sxm, Int.reduceBEq, Int.reduceBNe, Int.reduceLT, Int.reduceLE, Int.reduceEq, Int.reduceGT, Int.reduceGE, Int.reduceToNat, ↓reduceIte, List.reduceReplicate, Nat.reduceAdd, Nat.reduceSub, Nat.reduceMul, Nat.reduceLT, Nat.reduceLeDiff, Nat.reduceBEq, Nat.reduceEqDiff]
    simp
  rintro ⟨k, s⟩ H1 g2 ⟨⟨hk, hsl, ht, hf⟩, rfl⟩
  simp only at hk hsl ht hf
  by_cases hkn : k = n
  · have e7 : ((k : Int) < (n : Int)) = False := eq_false (by omega)
    rw [List.drop_of_length_le (by omega)] at ht hf
    rw [hq2 ht, hf, ht]
    refine ⟨?_⟩
    simp (config := { maxSteps := 4000000 }) only [↓sx0, ↓sx1, ↓sx2, ↓sx3, ↓sx4, ↓sx5, ↓sx6, sx0, sx1, sx2, sx3, sx4, sx5, sx6, tf36, ev3_hold, sxo, sxc, sxp, sxq, sxr, sxs, sxl, sxm, Int.reduceBEq, Int.reduceBNe, Int.reduceLT, Int.reduceLE, Int.reduceEq, Int.reduceGT, Int.reduceGE, Int.reduceToNat, ↓reduceIte, List.reduceReplicate, Nat.reduceAdd, Nat.reduceSub, Nat.reduceMul, Nat.reduceLT, Nat.reduceLeDiff, Nat.reduceBEq, Nat.reduceEqDiff, e7]
    exact ⟨_, rfl, Got.row hsl List.mem_cons_self (fun h => by cases h)⟩
  have e7 : ((k : Int) < (n : Int)) = True := eq_true (by omega)
  have hkl : k < l.length := by omega
  have hu := List.getElem?_eq_getElem hkl
  rw [List.drop_eq_getElem_cons hkl] at ht hf
  rw [List.all_cons] at ht
  rw [List.foldl_cons] at hf
  have e3 : wr (k + 1) = ((k + 1 : Nat) : Int) := (wrap_id (by omega)).trans (by omega)
  generalize l[k] = p at hu ht hf
  obtain ⟨pt, ph, pk⟩ := p
  have hbad : drB hands (pt, ph, pk) = false → l.all (drB hands) = false := fun h => by rw [ht, h]; rfl
  cases d3 : inB pt (-200) 400 with
  | false =>
    have hb := hbad (by unfold drB; rw [d3]; simp)
    rw [hq3 hb, hb]
    refine ⟨?_⟩
    simp (config := { maxSteps := 4000000 }) only [↓sx0, ↓sx1, ↓sx2, ↓sx3, ↓sx4, ↓sx5, ↓sx6, sx0, sx1, sx2, sx3, sx4, sx5, sx6, tf36, ev3_hold, sxo, sxc, sxp, sxq, sxr, sxs, sxl, sxm, Int.reduceBEq, Int.reduceBNe, Int.reduceLT, Int.reduceLE, Int.reduceEq, Int.reduceGT, Int.reduceGE, Int.reduceToNat, ↓reduceIte, List.reduceReplicate, Nat.reduceAdd, Nat.reduceSub, Nat.reduceMul, Nat.reduceLT, Nat.reduceLeDiff, Nat.reduceBEq, Nat.reduceEqDiff, e7]
    refine amid (at_n (hr _) pgc_len (by omega) hu fun ad => ?_)
    unfold pgc
    simp (config := { maxSteps := 4000000 }) only [↓sx0, ↓sx1, ↓sx2, ↓sx3, ↓sx4, ↓sx5, ↓sx6, sx0, sx1, sx2, sx3, sx4, sx5, sx6, tf36, ev3_hold, sxo, sxc, sxp, sxq, sxr, sxs, sxl, sxm, Int.reduceBEq, Int.reduceBNe, Int.reduceLT, Int.reduceLE, Int.reduceEq, Int.reduceGT, Int.reduceGE, Int.reduceToNat, ↓reduceIte, List.reduceReplicate, Nat.reduceAdd, Nat.reduceSub, Nat.reduceMul, Nat.reduceLT, Nat.reduceLeDiff, Nat.reduceBEq, Nat.reduceEqDiff, e8, detA_eq, d3]
    exact ⟨_, rfl, Got.nil _⟩
  | true =>
  cases d1 : inB ph 0 (hands - 1) with
  | false =>
    have hb := hbad (by unfold drB; rw [d1]; rfl)
    rw [hq3 hb, hb]
    refine ⟨?_⟩
    simp (config := { maxSteps := 4000000 }) only [↓sx0, ↓sx1, ↓sx2, ↓sx3, ↓sx4, ↓sx5, ↓sx6, sx0, sx1, sx2, sx3, sx4, sx5, sx6, tf36, ev3_hold, sxo, sxc, sxp, sxq, sxr, sxs, sxl, sxm, Int.reduceBEq, Int.reduceBNe, Int.reduceLT, Int.reduceLE, Int.reduceEq, Int.reduceGT, Int.reduceGE, Int.reduceToNat, ↓reduceIte, List.reduceReplicate, Nat.reduceAdd, Nat.reduceSub, Nat.reduceMul, Nat.reduceLT, Nat.reduceLeDiff, Nat.reduceBEq, Nat.reduceEqDiff, e7]
    refine amid (at_n (hr _) pgc_len (by omega) hu fun ad => ?_)
    unfold pgc
    simp (config := { maxSteps := 4000000 }) only [↓sx0, ↓sx1, ↓sx2, ↓sx3, ↓sx4, ↓sx5, ↓sx6, sx0, sx1, sx2, sx3, sx4, sx5, sx6, tf36, ev3_hold, sxo, sxc, sxp, sxq, sxr, sxs, sxl, sxm, Int.reduceBEq, Int.reduceBNe, Int.reduceLT, Int.reduceLE, Int.reduceEq, Int.reduceGT, Int.reduceGE, Int.reduceToNat, ↓reduceIte, List.reduceReplicate, Nat.reduceAdd, Nat.reduceSub, Nat.reduceMul, Nat.reduceLT, Nat.reduceLeDiff, Nat.reduceBEq, Nat.reduceEqDiff, e8, detA_eq, d3, d1]
    exact ⟨_, rfl, Got.nil _⟩
  | true =>
  cases d2 : inB pk 0 7 with
  | false =>
    have hb := hbad (by unfold drB; rw [d1, d2]; rfl)
    rw [hq3 hb, hb]
    refine ⟨?_⟩
    simp (config := { maxSteps := 4000000 }) only [↓sx0, ↓sx1, ↓sx2, ↓sx3, ↓sx4, ↓sx5, ↓sx6, sx0, sx1, sx2, sx3, sx4, sx5, sx6, tf36, ev3_hold, sxo, sxc, sxp, sxq, sxr, sxs, sxl, sxm, Int.reduceBEq, Int.reduceBNe, Int.reduceLT, Int.reduceLE, Int.reduceEq, Int.reduceGT, Int.reduceGE, Int.reduceToNat, ↓reduceIte, List.reduceReplicate, Nat.reduceAdd, Nat.reduceSub, Nat.reduceMul, Nat.reduceLT, Nat.reduceLeDiff, Nat.reduceBEq, Nat.reduceEqDiff, e7]
    refine amid (at_n (hr _) pgc_len (by omega) hu fun ad => ?_)
    unfold pgc
    simp (config := { maxSteps := 4000000 }) only [↓sx0, ↓sx1, ↓sx2, ↓sx3, ↓sx4, ↓sx5, ↓sx6, sx0, sx1, sx2, sx3, sx4, sx5, sx6, tf36, ev3_hold, sxo, sxc, sxp, sxq, sxr, sxs, sxl, sxm, Int.reduceBEq, Int.reduceBNe, Int.reduceLT, Int.reduceLE, Int.reduceEq, Int.reduceGT, Int.reduceGE, Int.reduceToNat, ↓reduceIte, List.reduceReplicate, Nat.reduceAdd, Nat.reduceSub, Nat.reduceMul, Nat.reduceLT, Nat.reduceLeDiff, Nat.reduceBEq, Nat.reduceEqDiff, e8, detA_eq, d3, d1, d2]
    exact ⟨_, rfl, Got.nil _⟩
  | true =>
  have b1 := (inB_iff _ _ _).1 d1
  have b2' := (inB_iff _ _ _).1 d2
  have b3 := (inB_iff _ _ _).1 d3
  have hgd : drB hands (pt, ph, pk) = true := by unfold drB; rw [d1, d2, d3]; rfl
  rw [hgd, Bool.true_and] at ht
  have e9 : wr (tick - pt) = tick - pt := wrap_id (by omega)
  obtain ⟨h, rfl⟩ : ∃ h : Nat, ph = h := ⟨ph.toNat, by omega⟩
  obtain ⟨q, rfl⟩ : ∃ q : Nat, pk = q := ⟨pk.toNat, by omega⟩
  have hw : IntKind.u64.wrap (q : Int) = (q : Int) := u64_id (by omega)
  have hql : q < good.length := by omega
  have hgq := getD_at hql 0
  have hhl : h < s.length := by omega
  have hsh := getD_at hhl 0
  have hcs : curStep good tick s (pt, (h : Int), (q : Int)) = if tick - pt ≥ 0 ∧ tick - pt < good.getD q 0 then s.set h (bitS .or .i64 (s.getD h 0) (bitK q)) else s := rfl
  rw [hcs] at hf
  generalize good.getD q 0 = G at hgq hf
  generalize s.getD h 0 = S at hsh hf
  by_cases f1 : pt ≤ tick
  case neg =>
    have p1 : (pt ≤ tick) = False := eq_false f1
    rw [if_neg (fun h => f1 (by omega))] at hf
    refine ⟨?_⟩
    simp (config := { maxSteps := 4000000 }) only [↓sx0, ↓sx1, ↓sx2, ↓sx3, ↓sx4, ↓sx5, ↓sx6, sx0, sx1, sx2, sx3, sx4, sx5, sx6, tf36, ev3_hold, sxo, sxc, sxp, sxq, sxr, sxs, sxl, sxm, Int.reduceBEq, Int.reduceBNe, Int.reduceLT, Int.reduceLE, Int.reduceEq, Int.reduceGT, Int.reduceGE, Int.reduceToNat, ↓reduceIte, List.reduceReplicate, Nat.reduceAdd, Nat.reduceSub, Nat.reduceMul, Nat.reduceLT, Nat.reduceLeDiff, Nat.reduceBEq, Nat.reduceEqDiff, e7]
    refine amid (at_n (hr _) pgc_len (by omega) hu fun ad => ?_)
    unfold pgc
    simp (config := { maxSteps := 4000000 }) only [↓sx0, ↓sx1, ↓sx2, ↓sx3, ↓sx4, ↓sx5, ↓sx6, sx0, sx1, sx2, sx3, sx4, sx5, sx6, tf36, ev3_hold, sxo, sxc, sxp, sxq, sxr, sxs, sxl, sxm, Int.reduceBEq, Int.reduceBNe, Int.reduceLT, Int.reduceLE, Int.reduceEq, Int.reduceGT, Int.reduceGE, Int.reduceToNat, ↓reduceIte, List.reduceReplicate, Nat.reduceAdd, Nat.reduceSub, Nat.reduceMul, Nat.reduceLT, Nat.reduceLeDiff, Nat.reduceBEq, Nat.reduceEqDiff, e8, detA_eq, d1, d2, d3, e9, p1, e3]
    exact ⟨(k + 1, s), _, rfl, HImp.refl _ _, ⟨⟨by simp only; omega, hsl, ht, hf⟩, rfl⟩, by simp only; omega⟩
  have p1 : (pt ≤ tick) = True := eq_true f1
  by_cases f2 : tick - pt < G
  case neg =>
    have p2 : (tick - pt < G) = False := eq_false f2
    rw [if_neg (fun h => f2 h.2)] at hf
    refine ⟨?_⟩
    simp (config := { maxSteps := 4000000 }) only [↓sx0, ↓sx1, ↓sx2, ↓sx3, ↓sx4, ↓sx5, ↓sx6, sx0, sx1, sx2, sx3, sx4, sx5, sx6, tf36, ev3_hold, sxo, sxc, sxp, sxq, sxr, sxs, sxl, sxm, Int.reduceBEq, Int.reduceBNe, Int.reduceLT, Int.reduceLE, Int.reduceEq, Int.reduceGT, Int.reduceGE, Int.reduceToNat, ↓reduceIte, List.reduceReplicate, Nat.reduceAdd, Nat.reduceSub, Nat.reduceMul, Nat.reduceLT, Nat.reduceLeDiff, Nat.reduceBEq, Nat.reduceEqDiff, e7]
    refine amid (at_n (hr _) pgc_len (by omega) hu fun ad => ?_)
    unfold pgc
    simp (config := { maxSteps := 4000000 }) only [↓sx0, ↓sx1, ↓sx2, ↓sx3, ↓sx4, ↓sx5, ↓sx6, sx0, sx1, sx2, sx3, sx4, sx5, sx6, tf36, ev3_hold, sxo, sxc, sxp, sxq, sxr, sxs, sxl, sxm, Int.reduceBEq, Int.reduceBNe, Int.reduceLT, Int.reduceLE, Int.reduceEq, Int.reduceGT, Int.reduceGE, Int.reduceToNat, ↓reduceIte, List.reduceReplicate, Nat.reduceAdd, Nat.reduceSub, Nat.reduceMul, Nat.reduceLT, Nat.reduceLeDiff, Nat.reduceBEq, Nat.reduceEqDiff, e8, detA_eq, d1, d2, d3, e9, p1]
    refine at_1 (hrg _) i1_len hgq rfl fun ad => ?_
    simp (config := { maxSteps := 4000000 }) only [↓sx0, ↓sx1, ↓sx2, ↓sx3, ↓sx4, ↓sx5, ↓sx6, sx0, sx1, sx2, sx3, sx4, sx5, sx6, tf36, ev3_hold, sxo, sxc, sxp, sxq, sxr, sxs, sxl, sxm, Int.reduceBEq, Int.reduceBNe, Int.reduceLT, Int.reduceLE, Int.reduceEq, Int.reduceGT, Int.reduceGE, Int.reduceToNat, ↓reduceIte, List.reduceReplicate, Nat.reduceAdd, Nat.reduceSub, Nat.reduceMul, Nat.reduceLT, Nat.reduceLeDiff, Nat.reduceBEq, Nat.reduceEqDiff, p2, e3]
    exact ⟨(k + 1, s), _, rfl, HImp.refl _ _, ⟨⟨by simp only; omega, hsl, ht, hf⟩, rfl⟩, by simp only; omega⟩
  have p2 : (tick - pt < G) = True := eq_true f2
  rw [if_pos ⟨by omega, f2⟩] at hf
  refine ⟨?_⟩
  simp (config := { maxSteps := 4000000 }) only [↓sx0, ↓sx1, ↓sx2, ↓sx3, ↓sx4, ↓sx5, ↓sx6, sx0, sx1, sx2, sx3, sx4, sx5, sx6, tf36, ev3_hold, sxo, sxc, sxp, sxq, sxr, sxs, sxl, sxm, Int.reduceBEq, Int.reduceBNe, Int.reduceLT, Int.reduceLE, Int.reduceEq, Int.reduceGT, Int.reduceGE, Int.reduceToNat, ↓reduceIte, List.reduceReplicate, Nat.reduceAdd, Nat.reduceSub, Nat.reduceMul, Nat.reduceLT, Nat.reduceLeDiff, Nat.reduceBEq, Nat.reduceEqDiff, e7]
  refine amid (at_n (hr _) pgc_len (by omega) hu fun ad => ?_)
  unfold pgc
  simp (config := { maxSteps := 4000000 }) only [↓sx0, ↓sx1, ↓sx2, ↓sx3, ↓sx4, ↓sx5, ↓sx6, sx0, sx1, sx2, sx3, sx4, sx5, sx6, tf36, ev3_hold, sxo, sxc, sxp, sxq, sxr, sxs, sxl, sxm, Int.reduceBEq, Int.reduceBNe, Int.reduceLT, Int.reduceLE, Int.reduceEq, Int.reduceGT, Int.reduceGE, Int.reduceToNat, ↓reduceIte, List.reduceReplicate, Nat.reduceAdd, Nat.reduceSub, Nat.reduceMul, Nat.reduceLT, Nat.reduceLeDiff, Nat.reduceBEq, Nat.reduceEqDiff, e8, detA_eq, d1, d2, d3, e9, p1]
  refine at_1 (hrg _) i1_len hgq rfl fun ad => ?_
  simp (config := { maxSteps := 4000000 }) only [↓sx0, ↓sx1, ↓sx2, ↓sx3, ↓sx4, ↓sx5, ↓sx6, sx0, sx1, sx2, sx3, sx4, sx5, sx6, tf36, ev3_hold, sxo, sxc, sxp, sxq, sxr, sxs, sxl, sxm, Int.reduceBEq, Int.reduceBNe, Int.reduceLT, Int.reduceLE, Int.reduceEq, Int.reduceGT, Int.reduceGE, Int.reduceToNat, ↓reduceIte, List.reduceReplicate, Nat.reduceAdd, Nat.reduceSub, Nat.reduceMul, Nat.reduceLT, Nat.reduceLeDiff, Nat.reduceBEq, Nat.reduceEqDiff, p2]
  refine ⟨by omega, by omega, _, rfl, ?_⟩
  refine row_1 List.mem_cons_self i1_len hsh rfl ?_
  simp (config := { maxSteps := 4000000 }) only [↓sx0, ↓sx1, ↓sx2, ↓sx3, ↓sx4, ↓sx5, ↓sx6, sx0, sx1, sx2, sx3, sx4, sx5, sx6, tf36, ev3_hold, sxo, sxc, sxp, sxq, sxr, sxs, sxl, sxm, Int.reduceBEq, Int.reduceBNe, Int.reduceLT, Int.reduceLE, Int.reduceEq, Int.reduceGT, Int.reduceGE, Int.reduceToNat, ↓reduceIte, List.reduceReplicate, Nat.reduceAdd, Nat.reduceSub, Nat.reduceMul, Nat.reduceLT, Nat.reduceLeDiff, Nat.reduceBEq, Nat.reduceEqDiff, hw]
  refine ⟨by omega, by omega, by omega, _, rfl, ?_⟩
  refine wr_at (A := []) (f := i1) (u := bitS .or .i64 S (bitK q)) rfl i1_len hsl hhl ?_
  simp (config := { maxSteps := 4000000 }) only [↓sx0, ↓sx1, ↓sx2, ↓sx3, ↓sx4, ↓sx5, ↓sx6, sx0, sx1, sx2, sx3, sx4, sx5, sx6, tf36, ev3_hold, sxo, sxc, sxp, sxq, sxr, sxs, sxl, sxm, Int.reduceBEq, Int.reduceBNe, Int.reduceLT, Int.reduceLE, Int.reduceEq, Int.reduceGT, Int.reduceGE, Int.reduceToNat, ↓reduceIte, List.reduceReplicate, Nat.reduceAdd, Nat.reduceSub, Nat.reduceMul, Nat.reduceLT, Nat.reduceLeDiff, Nat.reduceBEq, Nat.reduceEqDiff, e3]
  exact ⟨(k + 1, s.set h (bitS .or .i64 S (bitK q))), _, rfl, HImp.refl _ _, ⟨⟨by simp only; omega, by simp only [List.length_set]; exact hsl, ht, hf⟩, rfl⟩, by simp only; omega⟩

end Go.Proofs.Ytlbcgkoncnablaa
