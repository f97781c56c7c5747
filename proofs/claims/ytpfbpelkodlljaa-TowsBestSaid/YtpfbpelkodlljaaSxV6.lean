/- A part of a proof: the symbolic walk and what it shows of single functions. -/
import Derived.Test.YtpfbpelkodlljaaSxV5
set_option linter.all false
namespace Go.Proofs.Ytpfbpelkodlljaa
open Go.RowKit Go.SX
set_option maxRecDepth 4000
set_option maxHeartbeats 4000000
set_option linter.unusedSimpArgs false
set_option linter.unusedVariables false

/-! ### Speeds -/

open Classical in
noncomputable def detG (s : Value) (us : List Tw) : Nat → List Value → Option Value
  | 42, [x, .int .i64 v, .int .i64 d] => if x = .agg #[s] ∧ okT us ∧ (1 ≤ v ∧ v ≤ 20) ∧ 0 ≤ d ∧ d ≤ 1000 then some (.tuple #[.bool (sureL v d us), .bool (canL v d us).isSome]) else none
  | g, xs => detF s us g xs

theorem detG_ok {v : Value} {us : List Tw} {w0 : World} {X : Nat → Prop} (hs : Sl w0 v 5 (twcs us)) (hX : ∀ b, rsl w0 v b → ¬ X b) : DetFn Try.prog ⟨w0, X⟩ (detG v us) := by
  intro g args r h w hk
  have hs' := hs.keepR hk hX
  unfold detG at h
  split at h
  · split at h
    · rename_i hc
      obtain ⟨rfl, hok, hv, hd⟩ := hc
      cases h
      exact det_of_fn' (tows_fn w _ us _ _ hs' hok hv hd)
    · cases h
  · exact detF_ok hs hX _ _ _ h w hk

theorem detG_eq (v : Value) (us : List Tw) : (detG v us 15 [.agg #[v]] = some (I (if trainB us then 0 else 90))) ∧ (detG v us 24 [.agg #[v]] = some (I (if trainB us then 0 else 90))) ∧
    (∀ a b c f, detG v us 50 [.agg #[I a, I b, I c], I f] = some (.bool (decide (f ≤ c)))) ∧
    (∀ a b c f d, detG v us 51 [.agg #[I a, I b, I c], I f, I d] = some (.bool (hangsB a b f d))) ∧
    (∀ n, detG v us 31 [I n] = some (.bool (inB n 1 20))) ∧
    (∀ a b c d, detG v us 53 [.agg #[I a, I b, I c], I d] = some (I (spdGo c d 20))) ∧
    (∀ n l h : Int, detG v us 39 [I n, I l, I h] = some (.bool (inB n l h))) ∧ (∀ n l h : Int, detG v us 40 [I n, I l, I h] = some (.bool (inB n l h))) :=
  ⟨by simp [detG, detF], by simp [detG, detF], fun _ _ _ _ => rfl, fun _ _ _ _ _ => rfl, fun _ => rfl, fun _ _ _ _ => rfl, fun _ _ _ => rfl, fun _ _ _ => rfl⟩

theorem detG_tows {s : Value} {us : List Tw} {v d : Int} (hok : okT us) (hv : 1 ≤ v ∧ v ≤ 20) (hd : 0 ≤ d ∧ d ≤ 1000) : detG s us 42 [.agg #[s], I v, I d] = some (.tuple #[.bool (sureL v d us), .bool (canL v d us).isSome]) :=
  if_pos ⟨rfl, hok, hv, hd⟩

/-- The numbers from 1 to k with a property. -/
def upTo (p : Int → Bool) : Nat → List Int
  | 0 => []
  | k + 1 => if p ((k + 1 : Nat) : Int) then upTo p k ++ [((k + 1 : Nat) : Int)] else upTo p k

theorem upTo_len (p : Int → Bool) (k : Nat) : (upTo p k).length ≤ k := by
  induction k with
  | zero => simp [upTo]
  | succ k ih =>
    unfold upTo
    split
    · simp; omega
    · omega

def sureF (us : List Tw) (d : Int) : List Int := upTo (fun v => sureL v d us) 20
def mayF (us : List Tw) (d : Int) : List Int := upTo (fun v => (canL v d us).isSome) 20

def speedsE (us : List Tw) (d : Int) : Int := if trainB us then (if inB d 0 1000 then 0 else 1) else 90
def sureR (us : List Tw) (d : Int) : List Int := if speedsE us d = 0 then sureF us d else []
def mayR (us : List Tw) (d : Int) : List Int := if speedsE us d = 0 then mayF us d else []

theorem speeds_fn (w : World) (s : Value) (us : List Tw) (d : Int) (hs : Sl w s 5 (twcs us)) :
    SX.Fn Try.prog 17 [.agg #[s], I d] w (fun _ => False) fun r N => ∃ x y, r = .tuple #[x, y, I (speedsE us d)] ∧ Got x 3 1 i1 (sureR us d) N ∧ Got y 3 1 i1 (mayR us d) N := by
  obtain ⟨a, n, c, rfl⟩ := hs.shape
  have hn := hs.le (f := twc) twc_len (by omega)
  have hD := detG_ok (X := fun _ => False) hs (fun _ _ => id)
  refine walk [] [] hD Try.func17 rfl Try.ntmps17 res17 (by kernel_rfl) no_facts ?_
  by_cases ht : trainB us = true
  · by_cases hd : inB d 0 1000 = true
    · have he : speedsE us d = 0 := by simp [speedsE, ht, hd]
      have hok := (train_iff us).1 ht
      have hd' : 0 ≤ d ∧ d ≤ 1000 := by simpa [inB] using hd
      simp (config := { maxSteps := 4000000 }) only [↓sx0, ↓sx1, ↓sx2, ↓sx3, ↓sx4, ↓sx5, ↓sx6, sx0, sx1, sx2, sx3, sx4, sx5, sx6, tf17, ev3_hold, sxo, List.all_cons, List.all_nil, Bool.not_eq_true', Bool.not_eq_false', and_self, Bool.false_eq_true, Bool.true_eq_false, false_implies, true_and, and_true, bne_self_eq_false, beq_self_eq_true, Int.reduceBEq, Int.reduceBNe, Int.reduceLT, Int.reduceLE, Int.reduceEq, Int.reduceToNat, Int.toNat_natCast, beq_iff_eq, bne_iff_ne, beq_eq_false_iff_ne, bne_eq_false_iff_eq, Decidable.not_not, ↓reduceIte, if_true, if_false, List.map_cons, List.map_nil, List.reduceReplicate, List.nil_append, List.cons_append, List.append_nil, List.length_cons, List.length_nil, Nat.reduceAdd, Nat.reduceSub, Nat.reduceMul, Nat.reduceLT, Nat.reduceLeDiff, Nat.reduceBEq, Nat.reduceEqDiff, decide_true, decide_false, decide_eq_true_eq, decide_eq_false_iff_not, Bool.and_true, Bool.true_and, Bool.and_false, Bool.false_and, Bool.or_true, Bool.true_or, Bool.or_false, Bool.false_or, Bool.not_true, Bool.not_false, sxc, List.getElem?_cons_zero, List.getElem?_cons_succ, List.drop_zero, List.drop_succ_cons, List.take_zero, List.take_succ_cons, List.zip_cons_cons, List.zip_nil_right, List.toList_toArray, Nat.zero_add, Option.map_some, Option.map_none, Option.isSome_some, true_and, and_true, forall_const, ne_eq, not_false_eq_true, true_implies, implies_true, detG_eq, ht, hd]
      refine loop_constI [.row (.slice none 0 0) 3 1 (ints []), .row (.slice none 0 0) 3 1 (ints [])] ((HImp.nilRow _ _ _ _).trans (HImp.nilRow _ _ _ _)) [(4, 5), (7, 9), (16, 37)] (fun p : Nat × Value × Value => [(7, I ((p.1 : Int) + 1)), (4, p.2.1), (5, p.2.2)])
        (fun p H1 => p.1 ≤ 20 ∧ ∃ adx cx ady cy, p.2.1 = .slice adx (upTo (fun v => sureL v d us) p.1).length cx ∧ p.2.2 = .slice ady (upTo (fun v => (canL v d us).isSome) p.1).length cy ∧ (adx = none → upTo (fun v => sureL v d us) p.1 = []) ∧ (ady = none → upTo (fun v => (canL v d us).isSome) p.1 = []) ∧
          H1 = [.row p.2.1 3 1 (ints (upTo (fun v => sureL v d us) p.1)), .row p.2.2 3 1 (ints (upTo (fun v => (canL v d us).isSome) p.1))]) (fun p => 20 - p.1) (0, .slice none 0 0, .slice none 0 0) ?_ ⟨by decide, none, 0, none, 0, rfl, rfl, fun _ => rfl, fun _ => rfl, rfl⟩ ?_
      · simp (config := { maxSteps := 4000000 }) only [↓sx0, ↓sx1, ↓sx2, ↓sx3, ↓sx4, ↓sx5, ↓sx6, sx0, sx1, sx2, sx3, sx4, sx5, sx6, tf17, ev3_hold, sxo, List.all_cons, List.all_nil, Bool.not_eq_true', Bool.not_eq_false', and_self, Bool.false_eq_true, Bool.true_eq_false, false_implies, true_and, and_true, bne_self_eq_false, beq_self_eq_true, Int.reduceBEq, Int.reduceBNe, Int.reduceLT, Int.reduceLE, Int.reduceEq, Int.reduceToNat, Int.toNat_natCast, beq_iff_eq, bne_iff_ne, beq_eq_false_iff_ne, bne_eq_false_iff_eq, Decidable.not_not, ↓reduceIte, if_true, if_false, List.map_cons, List.map_nil, List.reduceReplicate, List.nil_append, List.cons_append, List.append_nil, List.length_cons, List.length_nil, Nat.reduceAdd, Nat.reduceSub, Nat.reduceMul, Nat.reduceLT, Nat.reduceLeDiff, Nat.reduceBEq, Nat.reduceEqDiff, decide_true, decide_false, decide_eq_true_eq, decide_eq_false_iff_not, Bool.and_true, Bool.true_and, Bool.and_false, Bool.false_and, Bool.or_true, Bool.true_or, Bool.or_false, Bool.false_or, Bool.not_true, Bool.not_false, sxc, List.getElem?_cons_zero, List.getElem?_cons_succ, List.drop_zero, List.drop_succ_cons, List.take_zero, List.take_succ_cons, List.zip_cons_cons, List.zip_nil_right, List.toList_toArray, Nat.zero_add, Option.map_some, Option.map_none, Option.isSome_some, true_and, and_true, forall_const, ne_eq, not_false_eq_true, true_implies, implies_true]
        simp
      · rintro ⟨k, x, y⟩ H1 g hinv
        simp only [] at hinv
        obtain ⟨hk, adx, cx, ady, cy, rfl, rfl, hx0, hy0, rfl⟩ := hinv
        have hlx := upTo_len (fun v => sureL v d us) k
        have hly := upTo_len (fun v => (canL v d us).isSome) k
        by_cases hk20 : k = 20
        · subst hk20
          simp (config := { maxSteps := 4000000 }) only [↓sx0, ↓sx1, ↓sx2, ↓sx3, ↓sx4, ↓sx5, ↓sx6, sx0, sx1, sx2, sx3, sx4, sx5, sx6, tf17, ev3_hold, sxo, List.all_cons, List.all_nil, Bool.not_eq_true', Bool.not_eq_false', and_self, Bool.false_eq_true, Bool.true_eq_false, false_implies, true_and, and_true, bne_self_eq_false, beq_self_eq_true, Int.reduceBEq, Int.reduceBNe, Int.reduceLT, Int.reduceLE, Int.reduceEq, Int.reduceToNat, Int.toNat_natCast, beq_iff_eq, bne_iff_ne, beq_eq_false_iff_ne, bne_eq_false_iff_eq, Decidable.not_not, ↓reduceIte, if_true, if_false, List.map_cons, List.map_nil, List.reduceReplicate, List.nil_append, List.cons_append, List.append_nil, List.length_cons, List.length_nil, Nat.reduceAdd, Nat.reduceSub, Nat.reduceMul, Nat.reduceLT, Nat.reduceLeDiff, Nat.reduceBEq, Nat.reduceEqDiff, decide_true, decide_false, decide_eq_true_eq, decide_eq_false_iff_not, Bool.and_true, Bool.true_and, Bool.and_false, Bool.false_and, Bool.or_true, Bool.true_or, Bool.or_false, Bool.false_or, Bool.not_true, Bool.not_false, sxc, List.getElem?_cons_zero, List.getElem?_cons_succ, List.drop_zero, List.drop_succ_cons, List.take_zero, List.take_succ_cons, List.zip_cons_cons, List.zip_nil_right, List.toList_toArray, Nat.zero_add, Option.map_some, Option.map_none, Option.isSome_some, true_and, and_true, forall_const, ne_eq, not_false_eq_true, true_implies, implies_true]
          refine ⟨fun h => absurd h (by decide), fun _ => ⟨_, _, by rw [he], ?_, ?_⟩⟩
          · rw [sureR, if_pos he]; exact Got.row rfl List.mem_cons_self hx0
          · rw [mayR, if_pos he]; exact Got.row rfl (List.mem_cons_of_mem _ List.mem_cons_self) hy0
        · have e3 := detG_tows (s := .slice a n c) (v := (k : Int) + 1) hok ⟨by omega, by omega⟩ hd'
          have e4 : wr ((k : Int) + 1 + 1) = ((k + 1 : Nat) : Int) + 1 := (wrap_id (by omega)).trans (by omega)
          have e5 : (k : Int) + 1 ≤ 20 := by omega
          have e6 : ((k + 1 : Nat) : Int) = (k : Int) + 1 := by omega
          have uS : ∀ p : Int → Bool, upTo p (k + 1) = if p ((k : Int) + 1) then upTo p k ++ [(k : Int) + 1] else upTo p k := fun p => by rw [upTo, e6]
          simp (config := { maxSteps := 4000000 }) only [↓sx0, ↓sx1, ↓sx2, ↓sx3, ↓sx4, ↓sx5, ↓sx6, sx0, sx1, sx2, sx3, sx4, sx5, sx6, tf17, ev3_hold, sxo, List.all_cons, List.all_nil, Bool.not_eq_true', Bool.not_eq_false', and_self, Bool.false_eq_true, Bool.true_eq_false, false_implies, true_and, and_true, bne_self_eq_false, beq_self_eq_true, Int.reduceBEq, Int.reduceBNe, Int.reduceLT, Int.reduceLE, Int.reduceEq, Int.reduceToNat, Int.toNat_natCast, beq_iff_eq, bne_iff_ne, beq_eq_false_iff_ne, bne_eq_false_iff_eq, Decidable.not_not, ↓reduceIte, if_true, if_false, List.map_cons, List.map_nil, List.reduceReplicate, List.nil_append, List.cons_append, List.append_nil, List.length_cons, List.length_nil, Nat.reduceAdd, Nat.reduceSub, Nat.reduceMul, Nat.reduceLT, Nat.reduceLeDiff, Nat.reduceBEq, Nat.reduceEqDiff, decide_true, decide_false, decide_eq_true_eq, decide_eq_false_iff_not, Bool.and_true, Bool.true_and, Bool.and_false, Bool.false_and, Bool.or_true, Bool.true_or, Bool.or_false, Bool.false_or, Bool.not_true, Bool.not_false, sxc, List.getElem?_cons_zero, List.getElem?_cons_succ, List.drop_zero, List.drop_succ_cons, List.take_zero, List.take_succ_cons, List.zip_cons_cons, List.zip_nil_right, List.toList_toArray, Nat.zero_add, Option.map_some, Option.map_none, Option.isSome_some, true_and, and_true, forall_const, ne_eq, not_false_eq_true, true_implies, implies_true, e3, e4, e5]
          refine ⟨fun h1 b => ?_, fun h1 => ?_⟩
          · refine app_one ((k : Int) + 1) (HImp.refl _ _) i1_len i1_one (by omega) fun ad1 c1 => ?_
            simp (config := { maxSteps := 4000000 }) only [↓sx0, ↓sx1, ↓sx2, ↓sx3, ↓sx4, ↓sx5, ↓sx6, sx0, sx1, sx2, sx3, sx4, sx5, sx6, tf17, ev3_hold, sxo, List.all_cons, List.all_nil, Bool.not_eq_true', Bool.not_eq_false', and_self, Bool.false_eq_true, Bool.true_eq_false, false_implies, true_and, and_true, bne_self_eq_false, beq_self_eq_true, Int.reduceBEq, Int.reduceBNe, Int.reduceLT, Int.reduceLE, Int.reduceEq, Int.reduceToNat, Int.toNat_natCast, beq_iff_eq, bne_iff_ne, beq_eq_false_iff_ne, bne_eq_false_iff_eq, Decidable.not_not, ↓reduceIte, if_true, if_false, List.map_cons, List.map_nil, List.reduceReplicate, List.nil_append, List.cons_append, List.append_nil, List.length_cons, List.length_nil, Nat.reduceAdd, Nat.reduceSub, Nat.reduceMul, Nat.reduceLT, Nat.reduceLeDiff, Nat.reduceBEq, Nat.reduceEqDiff, decide_true, decide_false, decide_eq_true_eq, decide_eq_false_iff_not, Bool.and_true, Bool.true_and, Bool.and_false, Bool.false_and, Bool.or_true, Bool.true_or, Bool.or_false, Bool.false_or, Bool.not_true, Bool.not_false, sxc, List.getElem?_cons_zero, List.getElem?_cons_succ, List.drop_zero, List.drop_succ_cons, List.take_zero, List.take_succ_cons, List.zip_cons_cons, List.zip_nil_right, List.toList_toArray, Nat.zero_add, Option.map_some, Option.map_none, Option.isSome_some, true_and, and_true, forall_const, ne_eq, not_false_eq_true, true_implies, implies_true, e4]
            refine ⟨fun h2 b2 => ?_, fun h2 => ?_⟩
            · refine app_one ((k : Int) + 1) (HImp.swap _ _ _ _) i1_len i1_one (by omega) fun ad2 c2 => ?_
              simp (config := { maxSteps := 4000000 }) only [↓sx0, ↓sx1, ↓sx2, ↓sx3, ↓sx4, ↓sx5, ↓sx6, sx0, sx1, sx2, sx3, sx4, sx5, sx6, tf17, ev3_hold, sxo, List.all_cons, List.all_nil, Bool.not_eq_true', Bool.not_eq_false', and_self, Bool.false_eq_true, Bool.true_eq_false, false_implies, true_and, and_true, bne_self_eq_false, beq_self_eq_true, Int.reduceBEq, Int.reduceBNe, Int.reduceLT, Int.reduceLE, Int.reduceEq, Int.reduceToNat, Int.toNat_natCast, beq_iff_eq, bne_iff_ne, beq_eq_false_iff_ne, bne_eq_false_iff_eq, Decidable.not_not, ↓reduceIte, if_true, if_false, List.map_cons, List.map_nil, List.reduceReplicate, List.nil_append, List.cons_append, List.append_nil, List.length_cons, List.length_nil, Nat.reduceAdd, Nat.reduceSub, Nat.reduceMul, Nat.reduceLT, Nat.reduceLeDiff, Nat.reduceBEq, Nat.reduceEqDiff, decide_true, decide_false, decide_eq_true_eq, decide_eq_false_iff_not, Bool.and_true, Bool.true_and, Bool.and_false, Bool.false_and, Bool.or_true, Bool.true_or, Bool.or_false, Bool.false_or, Bool.not_true, Bool.not_false, sxc, List.getElem?_cons_zero, List.getElem?_cons_succ, List.drop_zero, List.drop_succ_cons, List.take_zero, List.take_succ_cons, List.zip_cons_cons, List.zip_nil_right, List.toList_toArray, Nat.zero_add, Option.map_some, Option.map_none, Option.isSome_some, true_and, and_true, forall_const, ne_eq, not_false_eq_true, true_implies, implies_true, e4]
              refine ⟨(k + 1, _, _), _, ⟨rfl, rfl, rfl⟩, HImp.swap _ _ _ _, ⟨by simp only []; omega, some ad1, c1, some ad2, c2, ?_, ?_, by simp, by simp, ?_⟩, by simp only []; omega⟩
              · simp only [uS, h1, if_true, List.length_append, List.length_cons, List.length_nil]
              · simp only [uS, h2, if_true, List.length_append, List.length_cons, List.length_nil]
              · simp only [uS, h1, h2, if_true]
            · refine ⟨(k + 1, _, _), _, ⟨rfl, rfl, rfl⟩, HImp.refl _ _, ⟨by simp only []; omega, some ad1, c1, ady, cy, ?_, ?_, by simp, ?_, ?_⟩, by simp only []; omega⟩
              · simp only [uS, h1, if_true, List.length_append, List.length_cons, List.length_nil]
              · simp only [uS, h2, Bool.false_eq_true, if_false]
              · simpa only [uS, h2, Bool.false_eq_true, if_false] using hy0
              · simp only [uS, h1, h2, if_true, Bool.false_eq_true, if_false]
          · refine ⟨fun h2 b2 => ?_, fun h2 => ?_⟩
            · refine app_one ((k : Int) + 1) (HImp.swap _ _ _ _) i1_len i1_one (by omega) fun ad2 c2 => ?_
              simp (config := { maxSteps := 4000000 }) only [↓sx0, ↓sx1, ↓sx2, ↓sx3, ↓sx4, ↓sx5, ↓sx6, sx0, sx1, sx2, sx3, sx4, sx5, sx6, tf17, ev3_hold, sxo, List.all_cons, List.all_nil, Bool.not_eq_true', Bool.not_eq_false', and_self, Bool.false_eq_true, Bool.true_eq_false, false_implies, true_and, and_true, bne_self_eq_false, beq_self_eq_true, Int.reduceBEq, Int.reduceBNe, Int.reduceLT, Int.reduceLE, Int.reduceEq, Int.reduceToNat, Int.toNat_natCast, beq_iff_eq, bne_iff_ne, beq_eq_false_iff_ne, bne_eq_false_iff_eq, Decidable.not_not, ↓reduceIte, if_true, if_false, List.map_cons, List.map_nil, List.reduceReplicate, List.nil_append, List.cons_append, List.append_nil, List.length_cons, List.length_nil, Nat.reduceAdd, Nat.reduceSub, Nat.reduceMul, Nat.reduceLT, Nat.reduceLeDiff, Nat.reduceBEq, Nat.reduceEqDiff, decide_true, decide_false, decide_eq_true_eq, decide_eq_false_iff_not, Bool.and_true, Bool.true_and, Bool.and_false, Bool.false_and, Bool.or_true, Bool.true_or, Bool.or_false, Bool.false_or, Bool.not_true, Bool.not_false, sxc, List.getElem?_cons_zero, List.getElem?_cons_succ, List.drop_zero, List.drop_succ_cons, List.take_zero, List.take_succ_cons, List.zip_cons_cons, List.zip_nil_right, List.toList_toArray, Nat.zero_add, Option.map_some, Option.map_none, Option.isSome_some, true_and, and_true, forall_const, ne_eq, not_false_eq_true, true_implies, implies_true, e4]
              refine ⟨(k + 1, _, _), _, ⟨rfl, rfl, rfl⟩, HImp.swap _ _ _ _, ⟨by simp only []; omega, adx, cx, some ad2, c2, ?_, ?_, ?_, by simp, ?_⟩, by simp only []; omega⟩
              · simp only [uS, h1, Bool.false_eq_true, if_false]
              · simp only [uS, h2, if_true, List.length_append, List.length_cons, List.length_nil]
              · simpa only [uS, h1, Bool.false_eq_true, if_false] using hx0
              · simp only [uS, h1, h2, if_true, Bool.false_eq_true, if_false]
            · refine ⟨(k + 1, _, _), _, ⟨rfl, rfl, rfl⟩, HImp.refl _ _, ⟨by simp only []; omega, adx, cx, ady, cy, ?_, ?_, ?_, ?_, ?_⟩, by simp only []; omega⟩
              · simp only [uS, h1, Bool.false_eq_true, if_false]
              · simp only [uS, h2, Bool.false_eq_true, if_false]
              · simpa only [uS, h1, Bool.false_eq_true, if_false] using hx0
              · simpa only [uS, h2, Bool.false_eq_true, if_false] using hy0
              · simp only [uS, h1, h2, Bool.false_eq_true, if_false]
    · have he : speedsE us d = 1 := by simp [speedsE, ht, hd]
      simp (config := { maxSteps := 4000000 }) only [↓sx0, ↓sx1, ↓sx2, ↓sx3, ↓sx4, ↓sx5, ↓sx6, sx0, sx1, sx2, sx3, sx4, sx5, sx6, tf17, ev3_hold, sxo, List.all_cons, List.all_nil, Bool.not_eq_true', Bool.not_eq_false', and_self, Bool.false_eq_true, Bool.true_eq_false, false_implies, true_and, and_true, bne_self_eq_false, beq_self_eq_true, Int.reduceBEq, Int.reduceBNe, Int.reduceLT, Int.reduceLE, Int.reduceEq, Int.reduceToNat, Int.toNat_natCast, beq_iff_eq, bne_iff_ne, beq_eq_false_iff_ne, bne_eq_false_iff_eq, Decidable.not_not, ↓reduceIte, if_true, if_false, List.map_cons, List.map_nil, List.reduceReplicate, List.nil_append, List.cons_append, List.append_nil, List.length_cons, List.length_nil, Nat.reduceAdd, Nat.reduceSub, Nat.reduceMul, Nat.reduceLT, Nat.reduceLeDiff, Nat.reduceBEq, Nat.reduceEqDiff, decide_true, decide_false, decide_eq_true_eq, decide_eq_false_iff_not, Bool.and_true, Bool.true_and, Bool.and_false, Bool.false_and, Bool.or_true, Bool.true_or, Bool.or_false, Bool.false_or, Bool.not_true, Bool.not_false, sxc, List.getElem?_cons_zero, List.getElem?_cons_succ, List.drop_zero, List.drop_succ_cons, List.take_zero, List.take_succ_cons, List.zip_cons_cons, List.zip_nil_right, List.toList_toArray, Nat.zero_add, Option.map_some, Option.map_none, Option.isSome_some, true_and, and_true, forall_const, ne_eq, not_false_eq_true, true_implies, implies_true, detG_eq, ht, hd]
      exact ⟨_, _, by rw [he], by rw [sureR, if_neg (by omega)]; exact Got.nil _, by rw [mayR, if_neg (by omega)]; exact Got.nil _⟩
  · have he : speedsE us d = 90 := by simp [speedsE, ht]
    simp (config := { maxSteps := 4000000 }) only [↓sx0, ↓sx1, ↓sx2, ↓sx3, ↓sx4, ↓sx5, ↓sx6, sx0, sx1, sx2, sx3, sx4, sx5, sx6, tf17, ev3_hold, sxo, List.all_cons, List.all_nil, Bool.not_eq_true', Bool.not_eq_false', and_self, Bool.false_eq_true, Bool.true_eq_false, false_implies, true_and, and_true, bne_self_eq_false, beq_self_eq_true, Int.reduceBEq, Int.reduceBNe, Int.reduceLT, Int.reduceLE, Int.reduceEq, Int.reduceToNat, Int.toNat_natCast, beq_iff_eq, bne_iff_ne, beq_eq_false_iff_ne, bne_eq_false_iff_eq, Decidable.not_not, ↓reduceIte, if_true, if_false, List.map_cons, List.map_nil, List.reduceReplicate, List.nil_append, List.cons_append, List.append_nil, List.length_cons, List.length_nil, Nat.reduceAdd, Nat.reduceSub, Nat.reduceMul, Nat.reduceLT, Nat.reduceLeDiff, Nat.reduceBEq, Nat.reduceEqDiff, decide_true, decide_false, decide_eq_true_eq, decide_eq_false_iff_not, Bool.and_true, Bool.true_and, Bool.and_false, Bool.false_and, Bool.or_true, Bool.true_or, Bool.or_false, Bool.false_or, Bool.not_true, Bool.not_false, sxc, List.getElem?_cons_zero, List.getElem?_cons_succ, List.drop_zero, List.drop_succ_cons, List.take_zero, List.take_succ_cons, List.zip_cons_cons, List.zip_nil_right, List.toList_toArray, Nat.zero_add, Option.map_some, Option.map_none, Option.isSome_some, true_and, and_true, forall_const, ne_eq, not_false_eq_true, true_implies, implies_true, detG_eq, ht]
    exact ⟨_, _, by rw [he], by rw [sureR, if_neg (by omega)]; exact Got.nil _, by rw [mayR, if_neg (by omega)]; exact Got.nil _⟩

end Go.Proofs.Ytpfbpelkodlljaa
