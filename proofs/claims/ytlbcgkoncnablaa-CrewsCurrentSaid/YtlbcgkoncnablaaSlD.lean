/- A part of a proof: the symbolic walk and what it shows of single functions. -/
import Derived.Test.YtlbcgkoncnablaaK3
set_option linter.all false
namespace Go.Proofs.Ytlbcgkoncnablaa
open Go.RowKit Go.SX
set_option maxRecDepth 10000
set_option maxHeartbeats 4000000
set_option linter.unusedSimpArgs false
set_option linter.unusedVariables false

/-! ### Drills: tick, hand, skill -/

def drB (hands : Int) (p : Pg) : Bool := inB p.2.1 0 (hands - 1) && inB p.2.2 0 7 && inB p.1 (-200) 400

def goodB (good : List Int) : Bool := decide (good.length = 8) && good.all fun n => inB n 0 400

def curE (hands : Int) (l : List Pg) (good : List Int) (tick : Int) : Int :=
  if goodB good then (if keptN hands l.length [tick] = 0 then (if l.all (drB hands) then 0 else 72) else keptN hands l.length [tick]) else 1

def bitK (n : Int) : Int := IntKind.i64.wrap (1 * 2 ^ (min n.toNat IntKind.i64.bits))

def curStep (good : List Int) (tick : Int) (s : List Int) (p : Pg) : List Int :=
  if tick - p.1 ≥ 0 ∧ tick - p.1 < good.getD p.2.2.toNat 0 then s.set p.2.1.toNat (bitS .or .i64 (s.getD p.2.1.toNat 0) (bitK p.2.2)) else s

def curL (hands : Int) (l : List Pg) (good : List Int) (tick : Int) : List Int := if curE hands l good tick = 0 then l.foldl (curStep good tick) (List.replicate hands.toNat 0) else []

theorem curStep_len (good : List Int) (tick : Int) (s : List Int) (p : Pg) : (curStep good tick s p).length = s.length := by
  unfold curStep
  split
  · rw [List.length_set]
  · rfl

/-- An element of a row of one cell each. -/
theorem row_1 {α : Type} {w0 : Base} {H : List HO} {ad : Addr} {len cap e k : Nat} {f : α → List Value} {l : List α} {u : α} {x : Value} {K : SV → Prop} (h : HO.row (.slice (some ad) len cap) e 1 (cat f l) ∈ H) (hf : ∀ a, (f a).length = 1) (hu : l[k]? = some u) (hx : f u = [x])
    (hK : K (.v x)) : hold (LdOb w0 H (ad.add (k * 1)) none K) ⟨0⟩ := ld1 (row_rds h) ((cat_get hf hu (j := 0) (by omega)).trans (by rw [hx]; rfl)) hK

theorem goodB_any (good : List Int) : (good.any fun n => !inB n 0 400) = !(good.all fun n => inB n 0 400) := by
  rw [List.not_all_eq_any_not]

theorem current_fn (w : World) (hands tick : Int) (v : Value) (l : List Pg) (hs : Sl w v 3 (cat pgc l)) (vg : Value) (good : List Int) (hg : Sl w vg 1 (ints good)) (hgb : good.length ≤ 1099511627776) :
    SX.Fn Try.prog 35 [I hands, v, vg, I tick] w (fun _ => False) fun r N => ∃ x, r = .tuple #[x, I (curE hands l good tick)] ∧ Got x 3 1 i1 (curL hands l good tick) N := by
  obtain ⟨a, n, c, rfl⟩ := hs.shape
  obtain ⟨ag, ng, cg, rfl⟩ := hg.shape
  have hn := hs.le pgc_len (by omega)
  have hng := hg.le i1_len (by omega)
  have hr := hs.rd0
  have hrg := hg.rd0
  have dn : (∀ xs, detA 65 xs = none) ∧ (∀ xs, detA 67 xs = none) := ⟨fun _ => rfl, fun _ => rfl⟩
  by_cases c0 : ng = 8
  case neg =>
    have e0 : ((ng : Int) = 8) = False := eq_false (by omega)
    have hq : curE hands l good tick = 1 := by
      unfold curE goodB
      rw [decide_eq_false (by omega), Bool.false_and]
      rfl
    have hq2 : curL hands l good tick = [] := by unfold curL; rw [hq]; rfl
    rw [hq, hq2]
    refine walk [] [] (detA_ok _ _) Try.func35 rfl Try.ntmps35 res35 (by kernel_rfl) no_facts ?_
    simp (config := { maxSteps := 4000000 }) only [↓sx0, ↓sx1, ↓sx2, ↓sx3, ↓sx4, ↓sx5, ↓sx6, sx0, sx1, sx2, sx3, sx4, sx5, sx6, tf35, ev3_hold, sxo, sxc, sxp, sxq, sxr, sxs, sxl, sxm, Int.reduceBEq, Int.reduceBNe, Int.reduceLT, Int.reduceLE, Int.reduceEq, Int.reduceGT, Int.reduceGE, Int.reduceToNat, ↓reduceIte, List.reduceReplicate, Nat.reduceAdd, Nat.reduceSub, Nat.reduceMul, Nat.reduceLT, Nat.reduceLeDiff, Nat.reduceBEq, Nat.reduceEqDiff, detA_eq, e0]
    exact ⟨_, rfl, Got.nil _⟩
  have e0 : ((ng : Int) = 8) = True := eq_true (by omega)
  cases c1 : good.all fun n => inB n 0 400 with
  | false =>
    have hq : curE hands l good tick = 1 := by
      unfold curE goodB
      rw [c1, Bool.and_false]
      rfl
    have hq2 : curL hands l good tick = [] := by unfold curL; rw [hq]; rfl
    rw [hq, hq2]
    refine walk [] [] (detA_ok _ _) Try.func35 rfl Try.ntmps35 res35 (by kernel_rfl) no_facts ?_
    simp (config := { maxSteps := 4000000 }) only [↓sx0, ↓sx1, ↓sx2, ↓sx3, ↓sx4, ↓sx5, ↓sx6, sx0, sx1, sx2, sx3, sx4, sx5, sx6, tf35, ev3_hold, sxo, sxc, sxp, sxq, sxr, sxs, sxl, sxm, Int.reduceBEq, Int.reduceBNe, Int.reduceLT, Int.reduceLE, Int.reduceEq, Int.reduceGT, Int.reduceGE, Int.reduceToNat, ↓reduceIte, List.reduceReplicate, Nat.reduceAdd, Nat.reduceSub, Nat.reduceMul, Nat.reduceLT, Nat.reduceLeDiff, Nat.reduceBEq, Nat.reduceEqDiff, detA_eq, e0, dn]
    refine CallOb.pureH (fun w' hp' => containsI_fn w' _ good 66 [] _ (hg.hp (fun _ _ => id) hp') hgb (tells_good w')) ?_
    rintro r N rfl
    rw [goodB_any, c1]
    refine ⟨?_⟩
    simp (config := { maxSteps := 4000000 }) only [↓sx0, ↓sx1, ↓sx2, ↓sx3, ↓sx4, ↓sx5, ↓sx6, sx0, sx1, sx2, sx3, sx4, sx5, sx6, tf35, ev3_hold, sxo, sxc, sxp, sxq, sxr, sxs, sxl, sxm, Int.reduceBEq, Int.reduceBNe, Int.reduceLT, Int.reduceLE, Int.reduceEq, Int.reduceGT, Int.reduceGE, Int.reduceToNat, ↓reduceIte, List.reduceReplicate, Nat.reduceAdd, Nat.reduceSub, Nat.reduceMul, Nat.reduceLT, Nat.reduceLeDiff, Nat.reduceBEq, Nat.reduceEqDiff]
    exact ⟨_, rfl, Got.nil _⟩
  | true =>
  have hgo : goodB good = true := by
    unfold goodB
    rw [c1, decide_eq_true (by omega)]
    rfl
  by_cases c2 : keptN hands n [tick] = 0
  case neg =>
    have e2 : (keptN hands n [tick] = 0) = False := eq_false c2
    have hq : curE hands l good tick = keptN hands n [tick] := by
      unfold curE
      rw [hgo, if_pos rfl, hn, if_neg c2]
    have hq2 : curL hands l good tick = [] := by unfold curL; rw [hq, if_neg c2]
    rw [hq, hq2]
    refine walk [] [] (detA_ok _ _) Try.func35 rfl Try.ntmps35 res35 (by kernel_rfl) no_facts ?_
    simp (config := { maxSteps := 4000000 }) only [↓sx0, ↓sx1, ↓sx2, ↓sx3, ↓sx4, ↓sx5, ↓sx6, sx0, sx1, sx2, sx3, sx4, sx5, sx6, tf35, ev3_hold, sxo, sxc, sxp, sxq, sxr, sxs, sxl, sxm, Int.reduceBEq, Int.reduceBNe, Int.reduceLT, Int.reduceLE, Int.reduceEq, Int.reduceGT, Int.reduceGE, Int.reduceToNat, ↓reduceIte, List.reduceReplicate, Nat.reduceAdd, Nat.reduceSub, Nat.reduceMul, Nat.reduceLT, Nat.reduceLeDiff, Nat.reduceBEq, Nat.reduceEqDiff, detA_eq, e0, dn]
    refine CallOb.pureH (fun w' hp' => containsI_fn w' _ good 66 [] _ (hg.hp (fun _ _ => id) hp') hgb (tells_good w')) ?_
    rintro r N rfl
    rw [goodB_any, c1]
    refine ⟨?_⟩
    simp (config := { maxSteps := 4000000 }) only [↓sx0, ↓sx1, ↓sx2, ↓sx3, ↓sx4, ↓sx5, ↓sx6, sx0, sx1, sx2, sx3, sx4, sx5, sx6, tf35, ev3_hold, sxo, sxc, sxp, sxq, sxr, sxs, sxl, sxm, Int.reduceBEq, Int.reduceBNe, Int.reduceLT, Int.reduceLE, Int.reduceEq, Int.reduceGT, Int.reduceGE, Int.reduceToNat, ↓reduceIte, List.reduceReplicate, Nat.reduceAdd, Nat.reduceSub, Nat.reduceMul, Nat.reduceLT, Nat.reduceLeDiff, Nat.reduceBEq, Nat.reduceEqDiff, dn]
    intro b
    refine CallOb.pureH (fun w' hp' => kept_fn w' hands n _ [tick] (row_hp List.mem_cons_self hp') (by simp)) ?_
    rintro r N rfl
    refine ⟨?_⟩
    simp (config := { maxSteps := 4000000 }) only [↓sx0, ↓sx1, ↓sx2, ↓sx3, ↓sx4, ↓sx5, ↓sx6, sx0, sx1, sx2, sx3, sx4, sx5, sx6, tf35, ev3_hold, sxo, sxc, sxp, sxq, sxr, sxs, sxl, sxm, Int.reduceBEq, Int.reduceBNe, Int.reduceLT, Int.reduceLE, Int.reduceEq, Int.reduceGT, Int.reduceGE, Int.reduceToNat, ↓reduceIte, List.reduceReplicate, Nat.reduceAdd, Nat.reduceSub, Nat.reduceMul, Nat.reduceLT, Nat.reduceLeDiff, Nat.reduceBEq, Nat.reduceEqDiff, e2]
    exact ⟨_, rfl, Got.nil _⟩
  have e2 : (keptN hands n [tick] = 0) = True := eq_true c2
  obtain ⟨h1, h2, h3, h4⟩ := keptN_zero c2
  have htick := h4 tick (by simp)
  have hq : curE hands l good tick = if l.all (drB hands) then 0 else 72 := by
    unfold curE
    rw [hgo, if_pos rfl, hn, if_pos c2]
  have hq2 : l.all (drB hands) = true → curL hands l good tick = l.foldl (curStep good tick) (List.replicate hands.toNat 0) := fun h => by unfold curL; rw [hq, h]; rfl
  have hq3 : l.all (drB hands) = false → curL hands l good tick = [] := fun h => by unfold curL; rw [hq, h]; rfl
  rw [hq]
  have hz : zerosL hands.toNat [I 0] = ints (List.replicate hands.toNat 0) := zeros_cat i1 0 _
  have e8 : wr (hands - 1) = hands - 1 := wrap_id (by omega)
  refine walk [] [] (detA_ok _ _) Try.func35 rfl Try.ntmps35 res35 (by kernel_rfl) no_facts ?_
  simp (config := { maxSteps := 4000000 }) only [↓sx0, ↓sx1, ↓sx2, ↓sx3, ↓sx4, ↓sx5, ↓sx6, sx0, sx1, sx2, sx3, sx4, sx5, sx6, tf35, ev3_hold, sxo, sxc, sxp, sxq, sxr, sxs, sxl, sxm, Int.reduceBEq, Int.reduceBNe, Int.reduceLT, Int.reduceLE, Int.reduceEq, Int.reduceGT, Int.reduceGE, Int.reduceToNat, ↓reduceIte, List.reduceReplicate, Nat.reduceAdd, Nat.reduceSub, Nat.reduceMul, Nat.reduceLT, Nat.reduceLeDiff, Nat.reduceBEq, Nat.reduceEqDiff, detA_eq, e0, dn]
  refine CallOb.pureH (fun w' hp' => containsI_fn w' _ good 66 [] _ (hg.hp (fun _ _ => id) hp') hgb (tells_good w')) ?_
  rintro r N rfl
  rw [goodB_any, c1]
  refine ⟨?_⟩
  simp (config := { maxSteps := 4000000 }) only [↓sx0, ↓sx1, ↓sx2, ↓sx3, ↓sx4, ↓sx5, ↓sx6, sx0, sx1, sx2, sx3, sx4, sx5, sx6, tf35, ev3_hold, sxo, sxc, sxp, sxq, sxr, sxs, sxl, sxm, Int.reduceBEq, Int.reduceBNe, Int.reduceLT, Int.reduceLE, Int.reduceEq, Int.reduceGT, Int.reduceGE, Int.reduceToNat, ↓reduceIte, List.reduceReplicate, Nat.reduceAdd, Nat.reduceSub, Nat.reduceMul, Nat.reduceLT, Nat.reduceLeDiff, Nat.reduceBEq, Nat.reduceEqDiff, dn]
  intro b
  refine CallOb.pureH (fun w' hp' => kept_fn w' hands n _ [tick] (row_hp List.mem_cons_self hp') (by simp)) ?_
  rintro r N rfl
  refine ⟨?_⟩
  simp (config := { maxSteps := 4000000 }) only [↓sx0, ↓sx1, ↓sx2, ↓sx3, ↓sx4, ↓sx5, ↓sx6, sx0, sx1, sx2, sx3, sx4, sx5, sx6, tf35, ev3_hold, sxo, sxc, sxp, sxq, sxr, sxs, sxl, sxm, Int.reduceBEq, Int.reduceBNe, Int.reduceLT, Int.reduceLE, Int.reduceEq, Int.reduceGT, Int.reduceGE, Int.reduceToNat, ↓reduceIte, List.reduceReplicate, Nat.reduceAdd, Nat.reduceSub, Nat.reduceMul, Nat.reduceLT, Nat.reduceLeDiff, Nat.reduceBEq, Nat.reduceEqDiff, e2]
  refine ⟨by omega, by omega, by omega, ?_⟩
  intro b2
  rw [hz]
  refine loop_constH [.row (.slice (some ⟨b2, 0, none⟩) hands.toNat hands.toNat) 3 1 (ints (List.replicate hands.toNat 0))] (HImp.sub ((List.nil_sublist _).cons_cons _)) [(8, 9), (13, 14), (35, 82)] (fun x : Nat × List Int => [(8, .slice none 0 0), (9, I 0), (35, I x.1)])
    (fun x H1 => (x.1 ≤ n ∧ x.2.length = hands.toNat ∧ l.all (drB hands) = (l.drop x.1).all (drB hands) ∧ l.foldl (curStep good tick) (List.replicate hands.toNat 0) = (l.drop x.1).foldl (curStep good tick) x.2) ∧ H1 = [.row (.slice (some ⟨b2, 0, none⟩) hands.toNat hands.toNat) 3 1 (ints x.2)]) (fun x => n - x.1) (0, List.replicate hands.toNat 0) ?_ ⟨⟨Nat.zero_le _, List.length_replicate, rfl, rfl⟩, rfl⟩ ?_
  · simp (config := { maxSteps := 4000000 }) only [↓sx0, ↓sx1, ↓sx2, ↓sx3, ↓sx4, ↓sx5, ↓sx6, sx0, sx1, sx2, sx3, sx4, sx5, sx6, tf35, ev3_hold, sxo, sxc, sxp, sxq, sxr, sxs, sxl, sxm, Int.reduceBEq, Int.reduceBNe, Int.reduceLT, Int.reduceLE, Int.reduceEq, Int.reduceGT, Int.reduceGE, Int.reduceToNat, ↓reduceIte, List.reduceReplicate, Nat.reduceAdd, Nat.reduceSub, Nat.reduceMul, Nat.reduceLT, Nat.reduceLeDiff, Nat.reduceBEq, Nat.reduceEqDiff]
    simp
  rintro ⟨k, s⟩ H1 g1 ⟨⟨hk, hsl, ht, hf⟩, rfl⟩
  simp only at hk hsl ht hf
  by_cases hkn : k = n
  · have e7 : ((k : Int) < (n : Int)) = False := eq_false (by omega)
    rw [List.drop_of_length_le (by omega)] at ht hf
    refine ⟨?_⟩
    simp (config := { maxSteps := 4000000 }) only [↓sx0, ↓sx1, ↓sx2, ↓sx3, ↓sx4, ↓sx5, ↓sx6, sx0, sx1, sx2, sx3, sx4, sx5, sx6, tf35, ev3_hold, sxo, sxc, sxp, sxq, sxr, sxs, sxl, sxm, Int.reduceBEq, Int.reduceBNe, Int.reduceLT, Int.reduceLE, Int.reduceEq, Int.reduceGT, Int.reduceGE, Int.reduceToNat, ↓reduceIte, List.reduceReplicate, Nat.reduceAdd, Nat.reduceSub, Nat.reduceMul, Nat.reduceLT, Nat.reduceLeDiff, Nat.reduceBEq, Nat.reduceEqDiff, e7]
    rw [hq2 ht, hf, ht]
    exact ⟨_, rfl, Got.row hsl List.mem_cons_self (fun h => by cases h)⟩
  have e7 : ((k : Int) < (n : Int)) = True := eq_true (by omega)
  have hkl : k < l.length := by omega
  have hu := List.getElem?_eq_getElem hkl
  rw [List.drop_eq_getElem_cons hkl] at ht hf
  rw [List.all_cons] at ht
  rw [List.foldl_cons] at hf
  have e3 : wr (k + 1) = ((k + 1 : Nat) : Int) := (wrap_id (by omega)).trans (by omega)
  generalize l[k] = p at hu ht hf
  obtain ⟨pt, ph, pk⟩ := p
  have hbad : drB hands (pt, ph, pk) = false → l.all (drB hands) = false := fun h => by rw [ht, h]; rfl
  cases d1 : inB ph 0 (hands - 1) with
  | false =>
    have hb := hbad (by unfold drB; rw [d1]; rfl)
    rw [hq3 hb, hb]
    refine ⟨?_⟩
    simp (config := { maxSteps := 4000000 }) only [↓sx0, ↓sx1, ↓sx2, ↓sx3, ↓sx4, ↓sx5, ↓sx6, sx0, sx1, sx2, sx3, sx4, sx5, sx6, tf35, ev3_hold, sxo, sxc, sxp, sxq, sxr, sxs, sxl, sxm, Int.reduceBEq, Int.reduceBNe, Int.reduceLT, Int.reduceLE, Int.reduceEq, Int.reduceGT, Int.reduceGE, Int.reduceToNat, ↓reduceIte, List.reduceReplicate, Nat.reduceAdd, Nat.reduceSub, Nat.reduceMul, Nat.reduceLT, Nat.reduceLeDiff, Nat.reduceBEq, Nat.reduceEqDiff, e7]
    refine amid (at_n (hr _) pgc_len (by omega) hu fun ad => ?_)
    unfold pgc
    simp (config := { maxSteps := 4000000 }) only [↓sx0, ↓sx1, ↓sx2, ↓sx3, ↓sx4, ↓sx5, ↓sx6, sx0, sx1, sx2, sx3, sx4, sx5, sx6, tf35, ev3_hold, sxo, sxc, sxp, sxq, sxr, sxs, sxl, sxm, Int.reduceBEq, Int.reduceBNe, Int.reduceLT, Int.reduceLE, Int.reduceEq, Int.reduceGT, Int.reduceGE, Int.reduceToNat, ↓reduceIte, List.reduceReplicate, Nat.reduceAdd, Nat.reduceSub, Nat.reduceMul, Nat.reduceLT, Nat.reduceLeDiff, Nat.reduceBEq, Nat.reduceEqDiff, e8, detA_eq, d1]
    exact ⟨_, rfl, Got.nil _⟩
  | true =>
  cases d2 : inB pk 0 7 with
  | false =>
    have hb := hbad (by unfold drB; rw [d1, d2]; rfl)
    rw [hq3 hb, hb]
    refine ⟨?_⟩
    simp (config := { maxSteps := 4000000 }) only [↓sx0, ↓sx1, ↓sx2, ↓sx3, ↓sx4, ↓sx5, ↓sx6, sx0, sx1, sx2, sx3, sx4, sx5, sx6, tf35, ev3_hold, sxo, sxc, sxp, sxq, sxr, sxs, sxl, sxm, Int.reduceBEq, Int.reduceBNe, Int.reduceLT, Int.reduceLE, Int.reduceEq, Int.reduceGT, Int.reduceGE, Int.reduceToNat, ↓reduceIte, List.reduceReplicate, Nat.reduceAdd, Nat.reduceSub, Nat.reduceMul, Nat.reduceLT, Nat.reduceLeDiff, Nat.reduceBEq, Nat.reduceEqDiff, e7]
    refine amid (at_n (hr _) pgc_len (by omega) hu fun ad => ?_)
    unfold pgc
    simp (config := { maxSteps := 4000000 }) only [↓sx0, ↓sx1, ↓sx2, ↓sx3, ↓sx4, ↓sx5, ↓sx6, sx0, sx1, sx2, sx3, sx4, sx5, sx6, tf35, ev3_hold, sxo, sxc, sxp, sxq, sxr, sxs, sxl, sxm, Int.reduceBEq, Int.reduceBNe, Int.reduceLT, Int.reduceLE, Int.reduceEq, Int.reduceGT, Int.reduceGE, Int.reduceToNat, ↓reduceIte, List.reduceReplicate, Nat.reduceAdd, Nat.reduceSub, Nat.reduceMul, Nat.reduceLT, Nat.reduceLeDiff, Nat.reduceBEq, Nat.reduceEqDiff, e8, detA_eq, d1, d2]
    exact ⟨_, rfl, Got.nil _⟩
  | true =>
  cases d3 : inB pt (-200) 400 with
  | false =>
    have hb := hbad (by unfold drB; rw [d1, d2, d3]; rfl)
    rw [hq3 hb, hb]
    refine ⟨?_⟩
    simp (config := { maxSteps := 4000000 }) only [↓sx0, ↓sx1, ↓sx2, ↓sx3, ↓sx4, ↓sx5, ↓sx6, sx0, sx1, sx2, sx3, sx4, sx5, sx6, tf35, ev3_hold, sxo, sxc, sxp, sxq, sxr, sxs, sxl, sxm, Int.reduceBEq, Int.reduceBNe, Int.reduceLT, Int.reduceLE, Int.reduceEq, Int.reduceGT, Int.reduceGE, Int.reduceToNat, ↓reduceIte, List.reduceReplicate, Nat.reduceAdd, Nat.reduceSub, Nat.reduceMul, Nat.reduceLT, Nat.reduceLeDiff, Nat.reduceBEq, Nat.reduceEqDiff, e7]
    refine amid (at_n (hr _) pgc_len (by omega) hu fun ad => ?_)
    unfold pgc
    simp (config := { maxSteps := 4000000 }) only [↓sx0, ↓sx1, ↓sx2, ↓sx3, ↓sx4, ↓sx5, ↓sx6, sx0, sx1, sx2, sx3, sx4, sx5, sx6, tf35, ev3_hold, sxo, sxc, sxp, sxq, sxr, sxs, sxl, sxm, Int.reduceBEq, Int.reduceBNe, Int.reduceLT, Int.reduceLE, Int.reduceEq, Int.reduceGT, Int.reduceGE, Int.reduceToNat, ↓reduceIte, List.reduceReplicate, Nat.reduceAdd, Nat.reduceSub, Nat.reduceMul, Nat.reduceLT, Nat.reduceLeDiff, Nat.reduceBEq, Nat.reduceEqDiff, e8, detA_eq, d1, d2, d3]
    exact ⟨_, rfl, Got.nil _⟩
  | true =>
  have b1 := (inB_iff _ _ _).1 d1
  have b2' := (inB_iff _ _ _).1 d2
  have b3 := (inB_iff _ _ _).1 d3
  have hgd : drB hands (pt, ph, pk) = true := by unfold drB; rw [d1, d2, d3]; rfl
  rw [hgd, Bool.true_and] at ht
  have e9 : wr (tick - pt) = tick - pt := wrap_id (by omega)
  obtain ⟨h, rfl⟩ : ∃ h : Nat, ph = h := ⟨ph.toNat, by omega⟩
  obtain ⟨q, rfl⟩ : ∃ q : Nat, pk = q := ⟨pk.toNat, by omega⟩
  have hql : q < good.length := by omega
  have hgq := getD_at hql 0
  have hhl : h < s.length := by omega
  have hsh := getD_at hhl 0
  have hcs : curStep good tick s (pt, (h : Int), (q : Int)) = if tick - pt ≥ 0 ∧ tick - pt < good.getD q 0 then s.set h (bitS .or .i64 (s.getD h 0) (bitK q)) else s := rfl
  rw [hcs] at hf
  generalize good.getD q 0 = G at hgq hf
  generalize s.getD h 0 = S at hsh hf
  by_cases f1 : tick - pt ≥ 0
  case neg =>
    have p1 : (tick - pt ≥ 0) = False := eq_false f1
    rw [if_neg (fun h => f1 h.1)] at hf
    refine ⟨?_⟩
    simp (config := { maxSteps := 4000000 }) only [↓sx0, ↓sx1, ↓sx2, ↓sx3, ↓sx4, ↓sx5, ↓sx6, sx0, sx1, sx2, sx3, sx4, sx5, sx6, tf35, ev3_hold, sxo, sxc, sxp, sxq, sxr, sxs, sxl, sxm, Int.reduceBEq, Int.reduceBNe, Int.reduceLT, Int.reduceLE, Int.reduceEq, Int.reduceGT, Int.reduceGE, Int.reduceToNat, ↓reduceIte, List.reduceReplicate, Nat.reduceAdd, Nat.reduceSub, Nat.reduceMul, Nat.reduceLT, Nat.reduceLeDiff, Nat.reduceBEq, Nat.reduceEqDiff, e7]
    refine amid (at_n (hr _) pgc_len (by omega) hu fun ad => ?_)
    unfold pgc
    simp (config := { maxSteps := 4000000 }) only [↓sx0, ↓sx1, ↓sx2, ↓sx3, ↓sx4, ↓sx5, ↓sx6, sx0, sx1, sx2, sx3, sx4, sx5, sx6, tf35, ev3_hold, sxo, sxc, sxp, sxq, sxr, sxs, sxl, sxm, Int.reduceBEq, Int.reduceBNe, Int.reduceLT, Int.reduceLE, Int.reduceEq, Int.reduceGT, Int.reduceGE, Int.reduceToNat, ↓reduceIte, List.reduceReplicate, Nat.reduceAdd, Nat.reduceSub, Nat.reduceMul, Nat.reduceLT, Nat.reduceLeDiff, Nat.reduceBEq, Nat.reduceEqDiff, e8, detA_eq, d1, d2, d3, e9, p1, e3]
    exact ⟨(k + 1, s), _, rfl, HImp.refl _ _, ⟨⟨by simp only; omega, hsl, ht, hf⟩, rfl⟩, by simp only; omega⟩
  have p1 : (tick - pt ≥ 0) = True := eq_true f1
  by_cases f2 : tick - pt < G
  case neg =>
    have p2 : (tick - pt < G) = False := eq_false f2
    rw [if_neg (fun h => f2 h.2)] at hf
    refine ⟨?_⟩
    simp (config := { maxSteps := 4000000 }) only [↓sx0, ↓sx1, ↓sx2, ↓sx3, ↓sx4, ↓sx5, ↓sx6, sx0, sx1, sx2, sx3, sx4, sx5, sx6, tf35, ev3_hold, sxo, sxc, sxp, sxq, sxr, sxs, sxl, sxm, Int.reduceBEq, Int.reduceBNe, Int.reduceLT, Int.reduceLE, Int.reduceEq, Int.reduceGT, Int.reduceGE, Int.reduceToNat, ↓reduceIte, List.reduceReplicate, Nat.reduceAdd, Nat.reduceSub, Nat.reduceMul, Nat.reduceLT, Nat.reduceLeDiff, Nat.reduceBEq, Nat.reduceEqDiff, e7]
    refine amid (at_n (hr _) pgc_len (by omega) hu fun ad => ?_)
    unfold pgc
    simp (config := { maxSteps := 4000000 }) only [↓sx0, ↓sx1, ↓sx2, ↓sx3, ↓sx4, ↓sx5, ↓sx6, sx0, sx1, sx2, sx3, sx4, sx5, sx6, tf35, ev3_hold, sxo, sxc, sxp, sxq, sxr, sxs, sxl, sxm, Int.reduceBEq, Int.reduceBNe, Int.reduceLT, Int.reduceLE, Int.reduceEq, Int.reduceGT, Int.reduceGE, Int.reduceToNat, ↓reduceIte, List.reduceReplicate, Nat.reduceAdd, Nat.reduceSub, Nat.reduceMul, Nat.reduceLT, Nat.reduceLeDiff, Nat.reduceBEq, Nat.reduceEqDiff, e8, detA_eq, d1, d2, d3, e9, p1]
    refine at_1 (hrg _) i1_len hgq rfl fun ad => ?_
    simp (config := { maxSteps := 4000000 }) only [↓sx0, ↓sx1, ↓sx2, ↓sx3, ↓sx4, ↓sx5, ↓sx6, sx0, sx1, sx2, sx3, sx4, sx5, sx6, tf35, ev3_hold, sxo, sxc, sxp, sxq, sxr, sxs, sxl, sxm, Int.reduceBEq, Int.reduceBNe, Int.reduceLT, Int.reduceLE, Int.reduceEq, Int.reduceGT, Int.reduceGE, Int.reduceToNat, ↓reduceIte, List.reduceReplicate, Nat.reduceAdd, Nat.reduceSub, Nat.reduceMul, Nat.reduceLT, Nat.reduceLeDiff, Nat.reduceBEq, Nat.reduceEqDiff, p2, e3]
    exact ⟨(k + 1, s), _, rfl, HImp.refl _ _, ⟨⟨by simp only; omega, hsl, ht, hf⟩, rfl⟩, by simp only; omega⟩
  have p2 : (tick - pt < G) = True := eq_true f2
  rw [if_pos ⟨f1, f2⟩] at hf
  refine ⟨?_⟩
  simp (config := { maxSteps := 4000000 }) only [↓sx0, ↓sx1, ↓sx2, ↓sx3, ↓sx4, ↓sx5, ↓sx6, sx0, sx1, sx2, sx3, sx4, sx5, sx6, tf35, ev3_hold, sxo, sxc, sxp, sxq, sxr, sxs, sxl, sxm, Int.reduceBEq, Int.reduceBNe, Int.reduceLT, Int.reduceLE, Int.reduceEq, Int.reduceGT, Int.reduceGE, Int.reduceToNat, ↓reduceIte, List.reduceReplicate, Nat.reduceAdd, Nat.reduceSub, Nat.reduceMul, Nat.reduceLT, Nat.reduceLeDiff, Nat.reduceBEq, Nat.reduceEqDiff, e7]
  refine amid (at_n (hr _) pgc_len (by omega) hu fun ad => ?_)
  unfold pgc
  simp (config := { maxSteps := 4000000 }) only [↓sx0, ↓sx1, ↓sx2, ↓sx3, ↓sx4, ↓sx5, ↓sx6, sx0, sx1, sx2, sx3, sx4, sx5, sx6, tf35, ev3_hold, sxo, sxc, sxp, sxq, sxr, sxs, sxl, sxm, Int.reduceBEq, Int.reduceBNe, Int.reduceLT, Int.reduceLE, Int.reduceEq, Int.reduceGT, Int.reduceGE, Int.reduceToNat, ↓reduceIte, List.reduceReplicate, Nat.reduceAdd, Nat.reduceSub, Nat.reduceMul, Nat.reduceLT, Nat.reduceLeDiff, Nat.reduceBEq, Nat.reduceEqDiff, e8, detA_eq, d1, d2, d3, e9, p1]
  refine at_1 (hrg _) i1_len hgq rfl fun ad => ?_
  simp (config := { maxSteps := 4000000 }) only [↓sx0, ↓sx1, ↓sx2, ↓sx3, ↓sx4, ↓sx5, ↓sx6, sx0, sx1, sx2, sx3, sx4, sx5, sx6, tf35, ev3_hold, sxo, sxc, sxp, sxq, sxr, sxs, sxl, sxm, Int.reduceBEq, Int.reduceBNe, Int.reduceLT, Int.reduceLE, Int.reduceEq, Int.reduceGT, Int.reduceGE, Int.reduceToNat, ↓reduceIte, List.reduceReplicate, Nat.reduceAdd, Nat.reduceSub, Nat.reduceMul, Nat.reduceLT, Nat.reduceLeDiff, Nat.reduceBEq, Nat.reduceEqDiff, p2]
  refine ⟨by omega, by omega, _, rfl, ?_⟩
  refine row_1 List.mem_cons_self i1_len hsh rfl ?_
  simp (config := { maxSteps := 4000000 }) only [↓sx0, ↓sx1, ↓sx2, ↓sx3, ↓sx4, ↓sx5, ↓sx6, sx0, sx1, sx2, sx3, sx4, sx5, sx6, tf35, ev3_hold, sxo, sxc, sxp, sxq, sxr, sxs, sxl, sxm, Int.reduceBEq, Int.reduceBNe, Int.reduceLT, Int.reduceLE, Int.reduceEq, Int.reduceGT, Int.reduceGE, Int.reduceToNat, ↓reduceIte, List.reduceReplicate, Nat.reduceAdd, Nat.reduceSub, Nat.reduceMul, Nat.reduceLT, Nat.reduceLeDiff, Nat.reduceBEq, Nat.reduceEqDiff]
  refine ⟨by omega, by omega, by omega, _, rfl, ?_⟩
  refine wr_at (A := []) (f := i1) (u := bitS .or .i64 S (bitK q)) rfl i1_len hsl hhl ?_
  simp (config := { maxSteps := 4000000 }) only [↓sx0, ↓sx1, ↓sx2, ↓sx3, ↓sx4, ↓sx5, ↓sx6, sx0, sx1, sx2, sx3, sx4, sx5, sx6, tf35, ev3_hold, sxo, sxc, sxp, sxq, sxr, sxs, sxl, sxm, Int.reduceBEq, Int.reduceBNe, Int.reduceLT, Int.reduceLE, Int.reduceEq, Int.reduceGT, Int.reduceGE, Int.reduceToNat, ↓reduceIte, List.reduceReplicate, Nat.reduceAdd, Nat.reduceSub, Nat.reduceMul, Nat.reduceLT, Nat.reduceLeDiff, Nat.reduceBEq, Nat.reduceEqDiff, e3]
  exact ⟨(k + 1, s.set h (bitS .or .i64 S (bitK q))), _, rfl, HImp.refl _ _, ⟨⟨by simp only; omega, by simp only [List.length_set]; exact hsl, ht, hf⟩, rfl⟩, by simp only; omega⟩

end Go.Proofs.Ytlbcgkoncnablaa
