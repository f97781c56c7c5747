/- A part of a proof: the symbolic walk and what it shows of single functions. -/
import Derived.Test.YtcnlbnccbnapbaaDoorSsA
import Derived.Test.YtcnlbnccbnapbaaDoorSqH
set_option linter.all false
namespace Go.Proofs.YtcnlbnccbnapbaaDoor
open Go.RowKit Go.SX
set_option maxRecDepth 10000
set_option maxHeartbeats 0
set_option linter.unusedSimpArgs false
set_option linter.unusedVariables false
theorem rmpE_ok {c : Cht} {b : Cls} {r : Rmp} (h : rmpE c b r = 0) : c.ok ∧ clsB b = true ∧ rampB c r = true := by
  unfold rmpE at h
  split at h
  · rename_i h1
    split at h
    · rename_i h2
      split at h
      · rename_i h3
        exact ⟨(okB_iff c).1 h1, h2, h3⟩
      · cases h
    · cases h
  · cases h
theorem sta_rmp (c : Cht) (b : Cls) (r : Rmp) (t f : Int) : staE c b r t f = if rmpE c b r = 0 then (if inB t 0 ((c.tide.length : Int) - 1) && inB f 0 5000 then 0 else 1) else rmpE c b r := by
  unfold staE rmpE
  cases c.okB <;> cases clsB b <;> cases rampB c r <;> simp
theorem rReach_fn (w : World) (hw : Ways w) (v : Value) (c : Cht) (hc : ChOk w v c) (hsm : c.small) (b : Cls) (r : Rmp) (t : Int) :
    SX.Fn Tryd.prog 33 [v, clv b, rmv r, I t] w (fun _ => False) (ReachP c b r t) := by
  have hc0 := hc
  have hD := detR_ok (X := fun _ => False) hw hc (fun _ _ => id)
  have hra := fun (H : List HO) w' (hp : Hp ⟨w, fun _ => False⟩ H w') => rramp_fn w' (hw.hp hp) v c (hc0.hp hp) hsm b r
  have hrr := fun (hok : c.ok) h1 h2 (T : Nat) (hT : T < c.tide.length) (H : List HO) w' (hp : Hp ⟨w, fun _ => False⟩ H w') => rreach_fn w' (hw.hp hp) v c (hc0.hp hp) hok b r h1 h2 T hT
  have hsta := sta_rmp c b r t 0
  obtain ⟨sD, sT, sS, rfl, hsD, hsT, hsS⟩ := hc
  obtain ⟨aT, nT, cT, rfl⟩ := hsT.shape
  have hnT := hsT.le spc_len (by omega)
  subst hnT
  have hlt : c.tide.length ≤ 100 := hsm.2.1
  have hti : ∀ t, detR (.agg #[I c.wide, I c.high, sD, .slice aT c.tide.length cT, sS]) c 59 [.agg #[I c.wide, I c.high, sD, .slice aT c.tide.length cT, sS], I t] = some (.bool (inB t 0 (wr ((c.tide.length : Int) - 1)))) := fun t => (detR_eq _ c).2.2.2.1 _ _ _ _ _ _ _ _
  have ew : wr ((c.tide.length : Int) - 1) = (c.tide.length : Int) - 1 := wrap_id (by omega)
  rw [ew] at hti
  have dn : (∀ xs, detR (.agg #[I c.wide, I c.high, sD, .slice aT c.tide.length cT, sS]) c 58 xs = none) ∧ (∀ xs, detR (.agg #[I c.wide, I c.high, sD, .slice aT c.tide.length cT, sS]) c 65 xs = none) := ⟨fun _ => rfl, fun _ => rfl⟩
  unfold ReachP
  unfold clv rmv
  unfold clv rmv at hra hrr
  refine walk [] [] hD Tryd.func33 rfl Tryd.ntmps33 res33 (by kernel_rfl) no_facts ?_
  simp (config := { maxSteps := 4000000 }) only [↓sx0, ↓sx1, ↓sx2, ↓sx3, ↓sx4, ↓sx5, ↓sx6, sx0, sx1, sx2, sx3, sx4, sx5, sx6, tf33, ev3_hold, sxo, sxc, sxp, sxq, sxr, sxs, sxl, sxm, Int.reduceBEq, Int.reduceBNe, Int.reduceLT, Int.reduceLE, Int.reduceEq, Int.reduceGT, Int.reduceGE, Int.reduceToNat, ↓reduceIte, List.reduceReplicate, Nat.reduceAdd, Nat.reduceSub, Nat.reduceMul, Nat.reduceLT, Nat.reduceLeDiff, Nat.reduceBEq, Nat.reduceEqDiff, dn]
  refine CallOb.pureH (fun w' hp => hra _ w' hp) ?_
  rintro q N rfl
  by_cases hE : rmpE c b r = 0
  case neg =>
    have e1 : (rmpE c b r = 0) = False := eq_false hE
    rw [if_neg hE] at hsta
    refine ⟨?_⟩
    simp (config := { maxSteps := 4000000 }) only [↓sx0, ↓sx1, ↓sx2, ↓sx3, ↓sx4, ↓sx5, ↓sx6, sx0, sx1, sx2, sx3, sx4, sx5, sx6, tf33, ev3_hold, sxo, sxc, sxp, sxq, sxr, sxs, sxl, sxm, Int.reduceBEq, Int.reduceBNe, Int.reduceLT, Int.reduceLE, Int.reduceEq, Int.reduceGT, Int.reduceGE, Int.reduceToNat, ↓reduceIte, List.reduceReplicate, Nat.reduceAdd, Nat.reduceSub, Nat.reduceMul, Nat.reduceLT, Nat.reduceLeDiff, Nat.reduceBEq, Nat.reduceEqDiff, e1]
    exact .inl ⟨by rw [hsta]; exact hE, by rw [hsta]⟩
  rw [if_pos hE, show inB (0 : Int) 0 5000 = true from rfl, Bool.and_true] at hsta
  have hz := rmpE_ok hE
  rw [hE]
  cases hit : inB t 0 ((c.tide.length : Int) - 1) with
  | false =>
    rw [hit, if_neg (by simp)] at hsta
    refine ⟨?_⟩
    simp (config := { maxSteps := 4000000 }) only [↓sx0, ↓sx1, ↓sx2, ↓sx3, ↓sx4, ↓sx5, ↓sx6, sx0, sx1, sx2, sx3, sx4, sx5, sx6, tf33, ev3_hold, sxo, sxc, sxp, sxq, sxr, sxs, sxl, sxm, Int.reduceBEq, Int.reduceBNe, Int.reduceLT, Int.reduceLE, Int.reduceEq, Int.reduceGT, Int.reduceGE, Int.reduceToNat, ↓reduceIte, List.reduceReplicate, Nat.reduceAdd, Nat.reduceSub, Nat.reduceMul, Nat.reduceLT, Nat.reduceLeDiff, Nat.reduceBEq, Nat.reduceEqDiff, hti, hit]
    exact .inl ⟨by rw [hsta]; decide, by rw [hsta]⟩
  | true =>
  have hb := (inB_iff _ _ _).1 hit
  obtain ⟨T, rfl⟩ : ∃ T : Nat, t = T := ⟨t.toNat, by omega⟩
  rw [hit, if_pos rfl] at hsta
  have hrr := hrr hz.1 hz.2.1 hz.2.2 T (by omega)
  refine ⟨?_⟩
  simp (config := { maxSteps := 4000000 }) only [↓sx0, ↓sx1, ↓sx2, ↓sx3, ↓sx4, ↓sx5, ↓sx6, sx0, sx1, sx2, sx3, sx4, sx5, sx6, tf33, ev3_hold, sxo, sxc, sxp, sxq, sxr, sxs, sxl, sxm, Int.reduceBEq, Int.reduceBNe, Int.reduceLT, Int.reduceLE, Int.reduceEq, Int.reduceGT, Int.reduceGE, Int.reduceToNat, ↓reduceIte, List.reduceReplicate, Nat.reduceAdd, Nat.reduceSub, Nat.reduceMul, Nat.reduceLT, Nat.reduceLeDiff, Nat.reduceBEq, Nat.reduceEqDiff, hti, hit, dn]
  refine CallOb.pureH (fun w' hp => hrr _ w' hp) ?_
  rintro q N2 hG
  refine ⟨?_⟩
  simp (config := { maxSteps := 4000000 }) only [↓sx0, ↓sx1, ↓sx2, ↓sx3, ↓sx4, ↓sx5, ↓sx6, sx0, sx1, sx2, sx3, sx4, sx5, sx6, tf33, ev3_hold, sxo, sxc, sxp, sxq, sxr, sxs, sxl, sxm, Int.reduceBEq, Int.reduceBNe, Int.reduceLT, Int.reduceLE, Int.reduceEq, Int.reduceGT, Int.reduceGE, Int.reduceToNat, ↓reduceIte, List.reduceReplicate, Nat.reduceAdd, Nat.reduceSub, Nat.reduceMul, Nat.reduceLT, Nat.reduceLeDiff, Nat.reduceBEq, Nat.reduceEqDiff]
  exact .inr ⟨hsta, q, rfl, hG.mono (by simp +contextual)⟩
theorem rOpen_fn (w : World) (hw : Ways w) (v : Value) (c : Cht) (hc : ChOk w v c) (hsm : c.small) (b : Cls) (r : Rmp) :
    SX.Fn Tryd.prog 29 [v, clv b, rmv r] w (fun _ => False) (OpensP c b r) := by
  have hc0 := hc
  have hra := fun (H : List HO) w' (hp : Hp ⟨w, fun _ => False⟩ H w') => rramp_fn w' (hw.hp hp) v c (hc0.hp hp) hsm b r
  have hrd := fun (hok : c.ok) h1 h2 (T : Nat) (hT : T < c.tide.length) (H : List HO) w' (hp : Hp ⟨w, fun _ => False⟩ H w') => rready5_fn w' (hw.hp hp) v c (hc0.hp hp) hok b r h1 h2 T hT
  have hsta := sta_rmp c b r 0 0
  have htl : c.tide.length ≤ 100 := hsm.2.1
  obtain ⟨sD, sT, sS, rfl, hsD, hsT, hsS⟩ := hc
  obtain ⟨aT, nT, cT, rfl⟩ := hsT.shape
  have hnT := hsT.le spc_len (by omega)
  subst hnT
  have dn : ∀ (g : Nat) (xs : List Value), det0 g xs = none := fun _ _ => rfl
  unfold OpensP
  unfold clv rmv
  unfold clv rmv at hra hrd
  refine walk [] [] (det0_ok _ _) Tryd.func29 rfl Tryd.ntmps29 res29 (by kernel_rfl) no_facts ?_
  simp (config := { maxSteps := 4000000 }) only [↓sx0, ↓sx1, ↓sx2, ↓sx3, ↓sx4, ↓sx5, ↓sx6, sx0, sx1, sx2, sx3, sx4, sx5, sx6, tf29, ev3_hold, sxo, sxc, sxp, sxq, sxr, sxs, sxl, sxm, Int.reduceBEq, Int.reduceBNe, Int.reduceLT, Int.reduceLE, Int.reduceEq, Int.reduceGT, Int.reduceGE, Int.reduceToNat, ↓reduceIte, List.reduceReplicate, Nat.reduceAdd, Nat.reduceSub, Nat.reduceMul, Nat.reduceLT, Nat.reduceLeDiff, Nat.reduceBEq, Nat.reduceEqDiff, dn]
  refine CallOb.pureH (fun w' hp => hra _ w' hp) ?_
  rintro q N rfl
  by_cases hE : rmpE c b r = 0
  case neg =>
    have e1 : (rmpE c b r = 0) = False := eq_false hE
    rw [if_neg hE] at hsta
    refine ⟨?_⟩
    simp (config := { maxSteps := 4000000 }) only [↓sx0, ↓sx1, ↓sx2, ↓sx3, ↓sx4, ↓sx5, ↓sx6, sx0, sx1, sx2, sx3, sx4, sx5, sx6, tf29, ev3_hold, sxo, sxc, sxp, sxq, sxr, sxs, sxl, sxm, Int.reduceBEq, Int.reduceBNe, Int.reduceLT, Int.reduceLE, Int.reduceEq, Int.reduceGT, Int.reduceGE, Int.reduceToNat, ↓reduceIte, List.reduceReplicate, Nat.reduceAdd, Nat.reduceSub, Nat.reduceMul, Nat.reduceLT, Nat.reduceLeDiff, Nat.reduceBEq, Nat.reduceEqDiff, e1]
    exact .inl ⟨by rw [hsta]; exact hE, by rw [hsta]⟩
  have hz := rmpE_ok hE
  have h60 := hz.1.2.2.2.1
  rw [if_pos hE, (inB_iff (0 : Int) 0 _).2 (by omega), show inB (0 : Int) 0 5000 = true from rfl, Bool.and_true, if_pos rfl] at hsta
  have hrd := hrd hz.1 hz.2.1 hz.2.2
  rw [hE]
  obtain ⟨p, hp⟩ : ∃ p, rdyB c b r = p := ⟨_, rfl⟩
  rw [hp]
  simp only [hp] at hrd
  refine ⟨?_⟩
  simp (config := { maxSteps := 4000000 }) only [↓sx0, ↓sx1, ↓sx2, ↓sx3, ↓sx4, ↓sx5, ↓sx6, sx0, sx1, sx2, sx3, sx4, sx5, sx6, tf29, ev3_hold, sxo, sxc, sxp, sxq, sxr, sxs, sxl, sxm, Int.reduceBEq, Int.reduceBNe, Int.reduceLT, Int.reduceLE, Int.reduceEq, Int.reduceGT, Int.reduceGE, Int.reduceToNat, ↓reduceIte, List.reduceReplicate, Nat.reduceAdd, Nat.reduceSub, Nat.reduceMul, Nat.reduceLT, Nat.reduceLeDiff, Nat.reduceBEq, Nat.reduceEqDiff]
  obtain ⟨RR, hRe⟩ : ∃ RR : Value → List (Int × Int) → HO, ∀ x l, RR x l = HO.row x 54 2 (cat spc l) := ⟨_, fun _ _ => rfl⟩
  have hn0 : winL p 0 = [] := rfl
  refine loop_constH [RR (.slice none 0 0) (winL p 0)] (by rw [hRe]; exact (HImp.nil _ _).trans (HImp.nilRow _ _ _ _)) [(9, 11), (19, 58)] (fun q : Nat × Value => [(9, q.2), (10, I q.1)])
    (fun q H1 => q.1 ≤ c.tide.length ∧ (∃ ad cp, q.2 = .slice ad (winL p q.1).length cp ∧ (ad = none → winL p q.1 = [])) ∧ H1 = [RR q.2 (winL p q.1)]) (fun q => c.tide.length - q.1) (0, .slice none 0 0) ?_ ⟨Nat.zero_le _, ⟨none, 0, rfl, fun _ => rfl⟩, rfl⟩ ?_
  · simp (config := { maxSteps := 4000000 }) only [↓sx0, ↓sx1, ↓sx2, ↓sx3, ↓sx4, ↓sx5, ↓sx6, sx0, sx1, sx2, sx3, sx4, sx5, sx6, tf29, ev3_hold, sxo, sxc, sxp, sxq, sxr, sxs, sxl, sxm, Int.reduceBEq, Int.reduceBNe, Int.reduceLT, Int.reduceLE, Int.reduceEq, Int.reduceGT, Int.reduceGE, Int.reduceToNat, ↓reduceIte, List.reduceReplicate, Nat.reduceAdd, Nat.reduceSub, Nat.reduceMul, Nat.reduceLT, Nat.reduceLeDiff, Nat.reduceBEq, Nat.reduceEqDiff]
    try simp
  rintro ⟨i, x⟩ H1 g1 hinv
  simp only [] at hinv
  obtain ⟨hi, ⟨a1, c1, rfl, h1⟩, rfl⟩ := hinv
  have hwl := winL_len p i
  by_cases hin : i = c.tide.length
  · subst hin
    have e7 : ((c.tide.length : Int) < (c.tide.length : Int)) = False := eq_false (by omega)
    refine ⟨?_⟩
    simp (config := { maxSteps := 4000000 }) only [↓sx0, ↓sx1, ↓sx2, ↓sx3, ↓sx4, ↓sx5, ↓sx6, sx0, sx1, sx2, sx3, sx4, sx5, sx6, tf29, ev3_hold, sxo, sxc, sxp, sxq, sxr, sxs, sxl, sxm, Int.reduceBEq, Int.reduceBNe, Int.reduceLT, Int.reduceLE, Int.reduceEq, Int.reduceGT, Int.reduceGE, Int.reduceToNat, ↓reduceIte, List.reduceReplicate, Nat.reduceAdd, Nat.reduceSub, Nat.reduceMul, Nat.reduceLT, Nat.reduceLeDiff, Nat.reduceBEq, Nat.reduceEqDiff, e7]
    refine .inr ⟨hsta, _, rfl, ?_⟩
    exact Got.row rfl (by rw [hRe]; exact List.mem_cons_self) h1
  have e7 : ((i : Int) < (c.tide.length : Int)) = True := eq_true (by omega)
  have e8 : wr ((i : Int) + 1) = ((i + 1 : Nat) : Int) := (wrap_id (by omega)).trans (by omega)
  have e1 : wr ((i : Int) - 1) = (i : Int) - 1 := wrap_id (by omega)
  have hri := hrd i (by omega)
  rcases Bool.eq_false_or_eq_true (p i) with hb | hb
  case inr =>
    have hw1 : winL p (i + 1) = winL p i := by rw [winL, hb]; simp
    rw [hb] at hri
    refine ⟨?_⟩
    simp (config := { maxSteps := 4000000 }) only [↓sx0, ↓sx1, ↓sx2, ↓sx3, ↓sx4, ↓sx5, ↓sx6, sx0, sx1, sx2, sx3, sx4, sx5, sx6, tf29, ev3_hold, sxo, sxc, sxp, sxq, sxr, sxs, sxl, sxm, Int.reduceBEq, Int.reduceBNe, Int.reduceLT, Int.reduceLE, Int.reduceEq, Int.reduceGT, Int.reduceGE, Int.reduceToNat, ↓reduceIte, List.reduceReplicate, Nat.reduceAdd, Nat.reduceSub, Nat.reduceMul, Nat.reduceLT, Nat.reduceLeDiff, Nat.reduceBEq, Nat.reduceEqDiff, e7, dn]
    refine CallOb.pureH (fun w' hp => hri _ w' hp) ?_
    rintro q N2 rfl
    refine ⟨?_⟩
    simp (config := { maxSteps := 4000000 }) only [↓sx0, ↓sx1, ↓sx2, ↓sx3, ↓sx4, ↓sx5, ↓sx6, sx0, sx1, sx2, sx3, sx4, sx5, sx6, tf29, ev3_hold, sxo, sxc, sxp, sxq, sxr, sxs, sxl, sxm, Int.reduceBEq, Int.reduceBNe, Int.reduceLT, Int.reduceLE, Int.reduceEq, Int.reduceGT, Int.reduceGE, Int.reduceToNat, ↓reduceIte, List.reduceReplicate, Nat.reduceAdd, Nat.reduceSub, Nat.reduceMul, Nat.reduceLT, Nat.reduceLeDiff, Nat.reduceBEq, Nat.reduceEqDiff, e8]
    exact ⟨(i + 1, .slice a1 (winL p i).length c1), _, ⟨rfl, rfl⟩, HImp.app _ _ _, ⟨by simp only []; omega, ⟨a1, c1, by simp only []; rw [hw1], by simp only []; rw [hw1]; exact h1⟩, by simp only []; rw [hw1]⟩, by simp only []; omega⟩
  have hw1 : winL p (i + 1) = growL (winL p i) i := by rw [winL, hb]; simp
  rw [hb] at hri
  have hin0 : ∀ N2, HImp ⟨w, fun _ => False⟩ (N2 ++ [RR (.slice a1 (winL p i).length c1) (winL p i)]) [HO.row (.slice a1 (winL p i).length c1) 54 2 (cat spc (winL p i))] := fun N2 => by rw [hRe]; exact HImp.app _ _ _
  have hra : ∀ ad2 c2, HImp ⟨w, fun _ => False⟩ [HO.row (.slice (some ad2) ((winL p i).length + 1) c2) 54 2 (cat spc (winL p i ++ [((i : Int), (i : Int))]))] [RR (.slice (some ad2) ((winL p i).length + 1) c2) (winL p i ++ [((i : Int), (i : Int))])] := fun ad2 c2 => by rw [hRe]; exact HImp.refl _ _
  have happ : growL (winL p i) i = winL p i ++ [((i : Int), (i : Int))] → ∀ ad2 c2, ∃ s' : Nat × Value, ∃ H', s'.2 = .slice (some ad2) ((winL p i).length + 1) c2 ∧ s'.1 = i + 1 ∧ HImp ⟨w, fun _ => False⟩ [HO.row (.slice (some ad2) ((winL p i).length + 1) c2) 54 2 (cat spc (winL p i ++ [((i : Int), (i : Int))]))] H' ∧ (s'.1 ≤ c.tide.length ∧ (∃ ad cp, s'.2 = .slice ad (winL p s'.1).length cp ∧ (ad = none → winL p s'.1 = [])) ∧ H' = [RR s'.2 (winL p s'.1)]) ∧ c.tide.length - s'.1 < c.tide.length - i := fun hg ad2 c2 => by
    refine ⟨(i + 1, .slice (some ad2) ((winL p i).length + 1) c2), _, rfl, rfl, hra ad2 c2, ⟨by simp only []; omega, ⟨some ad2, c2, ?_, fun h => by cases h⟩, ?_⟩, by simp only []; omega⟩
    · simp only []
      rw [hw1, hg, List.length_append]
      rfl
    · simp only []
      rw [hw1, hg]
  by_cases h0 : winL p i = []
  · have hg : growL (winL p i) i = winL p i ++ [((i : Int), (i : Int))] := by rw [h0]; rfl
    have e0 : (((winL p i).length : Int) > 0) = False := eq_false (by rw [h0]; simp)
    refine ⟨?_⟩
    simp (config := { maxSteps := 4000000 }) only [↓sx0, ↓sx1, ↓sx2, ↓sx3, ↓sx4, ↓sx5, ↓sx6, sx0, sx1, sx2, sx3, sx4, sx5, sx6, tf29, ev3_hold, sxo, sxc, sxp, sxq, sxr, sxs, sxl, sxm, Int.reduceBEq, Int.reduceBNe, Int.reduceLT, Int.reduceLE, Int.reduceEq, Int.reduceGT, Int.reduceGE, Int.reduceToNat, ↓reduceIte, List.reduceReplicate, Nat.reduceAdd, Nat.reduceSub, Nat.reduceMul, Nat.reduceLT, Nat.reduceLeDiff, Nat.reduceBEq, Nat.reduceEqDiff, e7, dn]
    refine CallOb.pureH (fun w' hp => hri _ w' hp) ?_
    rintro q N2 rfl
    refine ⟨?_⟩
    simp (config := { maxSteps := 4000000 }) only [↓sx0, ↓sx1, ↓sx2, ↓sx3, ↓sx4, ↓sx5, ↓sx6, sx0, sx1, sx2, sx3, sx4, sx5, sx6, tf29, ev3_hold, sxo, sxc, sxp, sxq, sxr, sxs, sxl, sxm, Int.reduceBEq, Int.reduceBNe, Int.reduceLT, Int.reduceLE, Int.reduceEq, Int.reduceGT, Int.reduceGE, Int.reduceToNat, ↓reduceIte, List.reduceReplicate, Nat.reduceAdd, Nat.reduceSub, Nat.reduceMul, Nat.reduceLT, Nat.reduceLeDiff, Nat.reduceBEq, Nat.reduceEqDiff, e0]
    intro b2
    refine app_one (l := winL p i) ((i : Int), (i : Int)) (hin0 N2) spc_len spc_one (by omega) fun ad2 c2 => ?_
    simp (config := { maxSteps := 4000000 }) only [↓sx0, ↓sx1, ↓sx2, ↓sx3, ↓sx4, ↓sx5, ↓sx6, sx0, sx1, sx2, sx3, sx4, sx5, sx6, tf29, ev3_hold, sxo, sxc, sxp, sxq, sxr, sxs, sxl, sxm, Int.reduceBEq, Int.reduceBNe, Int.reduceLT, Int.reduceLE, Int.reduceEq, Int.reduceGT, Int.reduceGE, Int.reduceToNat, ↓reduceIte, List.reduceReplicate, Nat.reduceAdd, Nat.reduceSub, Nat.reduceMul, Nat.reduceLT, Nat.reduceLeDiff, Nat.reduceBEq, Nat.reduceEqDiff, e8]
    obtain ⟨s', H', q1, q2, q3, q4, q5⟩ := happ hg ad2 c2
    exact ⟨s', H', ⟨by rw [q1], by rw [q2]⟩, q3, q4, q5⟩
  have hlp : 0 < (winL p i).length := List.length_pos_iff.2 h0
  have e2 : (((winL p i).length : Int) > 0) = True := eq_true (by omega)
  have e3 : wr (((winL p i).length : Int) - 1) = (((winL p i).length - 1 : Nat) : Int) := (wrap_id (by omega)).trans (by omega)
  obtain ⟨y, hy⟩ : ∃ y, (winL p i)[(winL p i).length - 1]? = some y := ⟨_, List.getElem?_eq_getElem (by omega)⟩
  have hro := fun (N2 : List HO) => row_rdv (w0 := ⟨w, fun _ => False⟩) (H := N2 ++ [RR (.slice a1 (winL p i).length c1) (winL p i)]) (E := 54) (v := .slice a1 (winL p i).length c1) (sz := 2) (xs := cat spc (winL p i)) (by rw [hRe]; simp) ⟨_, _, _, rfl, by rw [cat_len spc_len], fun h => by rw [h1 h]; rfl⟩
  cases a1 with
  | none => exact absurd (h1 rfl) h0
  | some ad0 =>
  by_cases hq : y.2 = (i : Int) - 1
  · have e5 : (y.2 = (i : Int) - 1) = True := eq_true hq
    have hg : growL (winL p i) i = (winL p i).set ((winL p i).length - 1) (y.1, (i : Int)) := by unfold growL; rw [hy]; simp [hq]
    refine ⟨?_⟩
    simp (config := { maxSteps := 4000000 }) only [↓sx0, ↓sx1, ↓sx2, ↓sx3, ↓sx4, ↓sx5, ↓sx6, sx0, sx1, sx2, sx3, sx4, sx5, sx6, tf29, ev3_hold, sxo, sxc, sxp, sxq, sxr, sxs, sxl, sxm, Int.reduceBEq, Int.reduceBNe, Int.reduceLT, Int.reduceLE, Int.reduceEq, Int.reduceGT, Int.reduceGE, Int.reduceToNat, ↓reduceIte, List.reduceReplicate, Nat.reduceAdd, Nat.reduceSub, Nat.reduceMul, Nat.reduceLT, Nat.reduceLeDiff, Nat.reduceBEq, Nat.reduceEqDiff, e7, dn]
    refine CallOb.pureH (fun w' hp => hri _ w' hp) ?_
    rintro q N2 rfl
    refine ⟨?_⟩
    simp (config := { maxSteps := 4000000 }) only [↓sx0, ↓sx1, ↓sx2, ↓sx3, ↓sx4, ↓sx5, ↓sx6, sx0, sx1, sx2, sx3, sx4, sx5, sx6, tf29, ev3_hold, sxo, sxc, sxp, sxq, sxr, sxs, sxl, sxm, Int.reduceBEq, Int.reduceBNe, Int.reduceLT, Int.reduceLE, Int.reduceEq, Int.reduceGT, Int.reduceGE, Int.reduceToNat, ↓reduceIte, List.reduceReplicate, Nat.reduceAdd, Nat.reduceSub, Nat.reduceMul, Nat.reduceLT, Nat.reduceLeDiff, Nat.reduceBEq, Nat.reduceEqDiff, e2, e3]
    refine at_f (hro N2) spc_len hy (o := 1) (x := I y.2) rfl fun ad2 => ?_
    simp (config := { maxSteps := 4000000 }) only [↓sx0, ↓sx1, ↓sx2, ↓sx3, ↓sx4, ↓sx5, ↓sx6, sx0, sx1, sx2, sx3, sx4, sx5, sx6, tf29, ev3_hold, sxo, sxc, sxp, sxq, sxr, sxs, sxl, sxm, Int.reduceBEq, Int.reduceBNe, Int.reduceLT, Int.reduceLE, Int.reduceEq, Int.reduceGT, Int.reduceGE, Int.reduceToNat, ↓reduceIte, List.reduceReplicate, Nat.reduceAdd, Nat.reduceSub, Nat.reduceMul, Nat.reduceLT, Nat.reduceLeDiff, Nat.reduceBEq, Nat.reduceEqDiff, e1, e5, e3]
    refine ⟨by omega, by omega, _, rfl, ?_⟩
    refine wr_f1 (A := N2) (B := []) (o := 1) (u := y) (y.1, (i : Int)) (by rw [hRe]) spc_len rfl hy rfl (by omega) ?_
    simp (config := { maxSteps := 4000000 }) only [↓sx0, ↓sx1, ↓sx2, ↓sx3, ↓sx4, ↓sx5, ↓sx6, sx0, sx1, sx2, sx3, sx4, sx5, sx6, tf29, ev3_hold, sxo, sxc, sxp, sxq, sxr, sxs, sxl, sxm, Int.reduceBEq, Int.reduceBNe, Int.reduceLT, Int.reduceLE, Int.reduceEq, Int.reduceGT, Int.reduceGE, Int.reduceToNat, ↓reduceIte, List.reduceReplicate, Nat.reduceAdd, Nat.reduceSub, Nat.reduceMul, Nat.reduceLT, Nat.reduceLeDiff, Nat.reduceBEq, Nat.reduceEqDiff, e8]
    refine ⟨(i + 1, .slice (some ad0) (winL p i).length c1), _, ⟨rfl, rfl⟩, HImp.app _ _ _, ⟨by simp only []; omega, ⟨some ad0, c1, ?_, fun h => by cases h⟩, ?_⟩, by simp only []; omega⟩
    · simp only []
      rw [hw1, hg, List.length_set]
    · simp only []
      rw [hw1, hg, hRe]
  · have e5 : (y.2 = (i : Int) - 1) = False := eq_false hq
    have hg : growL (winL p i) i = winL p i ++ [((i : Int), (i : Int))] := by unfold growL; rw [hy]; simp [hq]
    refine ⟨?_⟩
    simp (config := { maxSteps := 4000000 }) only [↓sx0, ↓sx1, ↓sx2, ↓sx3, ↓sx4, ↓sx5, ↓sx6, sx0, sx1, sx2, sx3, sx4, sx5, sx6, tf29, ev3_hold, sxo, sxc, sxp, sxq, sxr, sxs, sxl, sxm, Int.reduceBEq, Int.reduceBNe, Int.reduceLT, Int.reduceLE, Int.reduceEq, Int.reduceGT, Int.reduceGE, Int.reduceToNat, ↓reduceIte, List.reduceReplicate, Nat.reduceAdd, Nat.reduceSub, Nat.reduceMul, Nat.reduceLT, Nat.reduceLeDiff, Nat.reduceBEq, Nat.reduceEqDiff, e7, dn]
    refine CallOb.pureH (fun w' hp => hri _ w' hp) ?_
    rintro q N2 rfl
    refine ⟨?_⟩
    simp (config := { maxSteps := 4000000 }) only [↓sx0, ↓sx1, ↓sx2, ↓sx3, ↓sx4, ↓sx5, ↓sx6, sx0, sx1, sx2, sx3, sx4, sx5, sx6, tf29, ev3_hold, sxo, sxc, sxp, sxq, sxr, sxs, sxl, sxm, Int.reduceBEq, Int.reduceBNe, Int.reduceLT, Int.reduceLE, Int.reduceEq, Int.reduceGT, Int.reduceGE, Int.reduceToNat, ↓reduceIte, List.reduceReplicate, Nat.reduceAdd, Nat.reduceSub, Nat.reduceMul, Nat.reduceLT, Nat.reduceLeDiff, Nat.reduceBEq, Nat.reduceEqDiff, e2, e3]
    refine at_f (hro N2) spc_len hy (o := 1) (x := I y.2) rfl fun ad2 => ?_
    simp (config := { maxSteps := 4000000 }) only [↓sx0, ↓sx1, ↓sx2, ↓sx3, ↓sx4, ↓sx5, ↓sx6, sx0, sx1, sx2, sx3, sx4, sx5, sx6, tf29, ev3_hold, sxo, sxc, sxp, sxq, sxr, sxs, sxl, sxm, Int.reduceBEq, Int.reduceBNe, Int.reduceLT, Int.reduceLE, Int.reduceEq, Int.reduceGT, Int.reduceGE, Int.reduceToNat, ↓reduceIte, List.reduceReplicate, Nat.reduceAdd, Nat.reduceSub, Nat.reduceMul, Nat.reduceLT, Nat.reduceLeDiff, Nat.reduceBEq, Nat.reduceEqDiff, e1, e5, e3]
    intro b2
    refine app_one (l := winL p i) ((i : Int), (i : Int)) (hin0 N2) spc_len spc_one (by omega) fun ad2 c2 => ?_
    simp (config := { maxSteps := 4000000 }) only [↓sx0, ↓sx1, ↓sx2, ↓sx3, ↓sx4, ↓sx5, ↓sx6, sx0, sx1, sx2, sx3, sx4, sx5, sx6, tf29, ev3_hold, sxo, sxc, sxp, sxq, sxr, sxs, sxl, sxm, Int.reduceBEq, Int.reduceBNe, Int.reduceLT, Int.reduceLE, Int.reduceEq, Int.reduceGT, Int.reduceGE, Int.reduceToNat, ↓reduceIte, List.reduceReplicate, Nat.reduceAdd, Nat.reduceSub, Nat.reduceMul, Nat.reduceLT, Nat.reduceLeDiff, Nat.reduceBEq, Nat.reduceEqDiff, e8]
    obtain ⟨s', H', q1, q2, q3, q4, q5⟩ := happ hg ad2 c2
    exact ⟨s', H', ⟨by rw [q1], by rw [q2]⟩, q3, q4, q5⟩
end Go.Proofs.YtcnlbnccbnapbaaDoor
