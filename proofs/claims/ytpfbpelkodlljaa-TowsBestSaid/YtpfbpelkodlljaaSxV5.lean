/- A part of a proof: the symbolic walk and what it shows of single functions. -/
import Derived.Test.YtpfbpelkodlljaaSxV4
set_option linter.all false
namespace Go.Proofs.Ytpfbpelkodlljaa
open Go.RowKit Go.SX
set_option maxRecDepth 4000
set_option maxHeartbeats 4000000
set_option linter.unusedSimpArgs false
set_option linter.unusedVariables false

/-! ### tows -/

abbrev bV (u : Tw) (v d : Int) := boundsV u.len u.mass u.str v d

def sureL (v d : Int) : List Tw → Bool
  | [] => true
  | u :: r => sureL v d r && ((bV u v d).2 && (decide ((bV u v d).1.1 ≤ loS (u :: r) 0) && decide (hiS (u :: r) 0 ≤ (bV u v d).1.2)))

def canStep (v d : Int) (u : Tw) (c : Int × Int) : Option (Int × Int) :=
  if (bV u v d).2 = true ∧ ¬ max (wr (c.1 + u.dl)) (bV u v d).1.1 > min (wr (c.2 + u.dh)) (bV u v d).1.2 then some (max (wr (c.1 + u.dl)) (bV u v d).1.1, min (wr (c.2 + u.dh)) (bV u v d).1.2) else none

def canL (v d : Int) : List Tw → Option (Int × Int)
  | [] => some (0, 0)
  | u :: r => (canL v d r).bind (canStep v d u)

theorem bounds_pre {u : Tw} {v d : Int} (hv : 1 ≤ v ∧ v ≤ 20) (hd : 0 ≤ d ∧ d ≤ 1000) : wr (v * v) ≠ 0 ∧ (u.mass > 0 → d ≠ 0 → wr (wr (wr (8 * v) * v) * d) ≠ 0) := by
  have e1 : 1 ≤ v * v := by have := Int.mul_le_mul hv.1 hv.1 (by omega) (by omega); omega
  have e2 : v * v ≤ 400 := by have := Int.mul_le_mul hv.2 hv.2 (by omega) (by omega); omega
  have w1 : wr (v * v) = v * v := wrap_id (by omega)
  have w2 : wr (8 * v) = 8 * v := wrap_id (by omega)
  have w3 : wr (8 * v * v) = 8 * (v * v) := (wrap_id (by rw [Int.mul_assoc]; omega)).trans (Int.mul_assoc _ _ _)
  refine ⟨by omega, fun _ hd0 => ?_⟩
  rw [w2, w3]
  have e3 : 1 ≤ d := by omega
  have e4 : 8 ≤ 8 * (v * v) * d := by have := Int.mul_le_mul (show 8 ≤ 8 * (v * v) by omega) e3 (by omega) (by omega); omega
  have e5 : 8 * (v * v) * d ≤ 3200000 := by have := Int.mul_le_mul (show 8 * (v * v) ≤ 3200 by omega) hd.2 (by omega) (by omega); omega
  have w4 : wr (8 * (v * v) * d) = 8 * (v * v) * d := wrap_id (by omega)
  omega

theorem sureL_drop {v d : Int} {us : List Tw} {i : Nat} (h : i < us.length) : sureL v d (us.drop i) = (sureL v d (us.drop (i + 1)) && ((bV us[i] v d).2 && (decide ((bV us[i] v d).1.1 ≤ loS us i) && decide (hiS us i ≤ (bV us[i] v d).1.2)))) := by
  have e : us.drop i = us[i] :: us.drop (i + 1) := List.drop_eq_getElem_cons h
  have el : loS (us[i] :: us.drop (i + 1)) 0 = loS us i := by rw [← e]; simp [loS]
  have eh : hiS (us[i] :: us.drop (i + 1)) 0 = hiS us i := by rw [← e]; simp [hiS]
  rw [e, sureL, el, eh]

theorem canL_drop {v d : Int} {us : List Tw} {i : Nat} (h : i < us.length) : canL v d (us.drop i) = (canL v d (us.drop (i + 1))).bind (canStep v d us[i]) := by
  rw [List.drop_eq_getElem_cons h, canL]

theorem canL_none {v d : Int} {us : List Tw} {i : Nat} (h : canL v d (us.drop i) = none) : canL v d us = none := by
  induction i with
  | zero => simpa using h
  | succ i ih =>
    refine ih ?_
    by_cases hi : i < us.length
    · rw [canL_drop hi, h]
      rfl
    · rw [List.drop_of_length_le (by omega)] at h ⊢
      exact h

theorem tows_fn (w : World) (s : Value) (us : List Tw) (v d : Int) (hs : Sl w s 5 (twcs us)) (hok : okT us) (hv : 1 ≤ v ∧ v ≤ 20) (hd : 0 ≤ d ∧ d ≤ 1000) :
    SX.Fn Try.prog 42 [.agg #[s], I v, I d] w (fun _ => False) fun r N => r = .tuple #[.bool (sureL v d us), .bool (canL v d us).isSome] := by
  obtain ⟨a, n, c, rfl⟩ := hs.shape
  have hn := hs.le (f := twc) twc_len (by omega)
  have h8 := hok.2.1
  have hr := hs.rd0
  have hD := detF_ok (X := fun _ => False) hs (fun _ _ => id)
  refine walk [] [(5, (ones [0, 1, 2, 3, 4, 5, 6, 7, 8] (.alt 9 (ones [10, 11, 12, 13, 14, 15] .fin) (.alt 13 (ones [9, 10, 11, 12, 14, 15] .fin) .no)))), (11, (ones [0, 1, 2, 3, 4, 5, 6, 7, 8] (.alt 9 (ones [10, 11, 12, 13, 14, 15] .fin) (.alt 13 (ones [9, 10, 11, 12, 14, 15] .fin) .no))))] hD Try.func42 rfl Try.ntmps42 res42 (by kernel_rfl) no_facts ?_
  simp (config := { maxSteps := 4000000 }) only [↓sx0, ↓sx1, ↓sx2, ↓sx3, ↓sx4, ↓sx5, ↓sx6, sx0, sx1, sx2, sx3, sx4, sx5, sx6, tf42, ev3_hold, sxo, List.all_cons, List.all_nil, Bool.not_eq_true', Bool.not_eq_false', and_self, Bool.false_eq_true, Bool.true_eq_false, false_implies, true_and, and_true, bne_self_eq_false, beq_self_eq_true, Int.reduceBEq, Int.reduceBNe, Int.reduceLT, Int.reduceLE, Int.reduceEq, Int.reduceToNat, Int.toNat_natCast, beq_iff_eq, bne_iff_ne, beq_eq_false_iff_ne, bne_eq_false_iff_eq, Decidable.not_not, ↓reduceIte, if_true, if_false, List.map_cons, List.map_nil, List.reduceReplicate, List.nil_append, List.cons_append, List.append_nil, List.length_cons, List.length_nil, Nat.reduceAdd, Nat.reduceSub, Nat.reduceMul, Nat.reduceLT, Nat.reduceLeDiff, Nat.reduceBEq, Nat.reduceEqDiff, decide_true, decide_false, decide_eq_true_eq, decide_eq_false_iff_not, Bool.and_true, Bool.true_and, Bool.and_false, Bool.false_and, Bool.or_true, Bool.true_or, Bool.or_false, Bool.false_or, Bool.not_true, Bool.not_false, sxc, List.getElem?_cons_zero, List.getElem?_cons_succ, List.drop_zero, List.drop_succ_cons, List.take_zero, List.take_succ_cons, List.zip_cons_cons, List.zip_nil_right, List.toList_toArray, Nat.zero_add, Option.map_some, Option.map_none, Option.isSome_some, true_and, and_true, forall_const, ne_eq, not_false_eq_true, true_implies, implies_true]
  refine range_introR Try.call44 n (dragArg us) [] [] (fun k L' H' => H' = [] ∧ L' = [(81, [.slice a n c]), (3, [I v]), (3, [I d]), (4, [.bool (sureL v d (us.drop (n - k)))]), (4, [.bool false])]) (rsl w (.slice a n c))
    (HImp.refl _ _) (fun x hx => .inl ⟨hx.2, id⟩) (fun w' hp => ?_) ⟨rfl, ?_⟩ ?_ ?_ ?_
  · have := drags_it w' (.slice a n c) us (hs.hpR (fun _ _ => id) hp) hok
    rw [hn] at this
    exact this.mono fun x hx => hs.rsl (by rw [twcs_cat, cat_len twc_len]; have := hok.1; omega) hx
  · rw [Nat.sub_zero, List.drop_of_length_le (by omega)]
    rfl
  · rintro k vs F ⟨rfl, _⟩
    rfl
  · rintro k vs F L' H' hk ⟨rfl, rfl⟩ - ⟨rfl, rfl⟩
    have hkl : us.length - 1 - k < us.length := by omega
    have hb := bounds_pre (u := us[us.length - 1 - k]) hv hd
    have hdet := detF_bounds us (.slice a n c) (a := us[us.length - 1 - k].len) (c := us[us.length - 1 - k].str) hb.1 hb.2
    have hsl := sureL_drop (v := v) (d := d) hkl
    rw [show us.length - 1 - k + 1 = n - k by omega] at hsl
    have hsl' : sureL v d (us.drop (n - (k + 1))) = sureL v d (us.drop (us.length - 1 - k)) := by rw [show n - (k + 1) = us.length - 1 - k by omega]
    simp (config := { maxSteps := 4000000 }) only [↓sx0, ↓sx1, ↓sx2, ↓sx3, ↓sx4, ↓sx5, ↓sx6, sx0, sx1, sx2, sx3, sx4, sx5, sx6, tf42, ev3_hold, sxo, List.all_cons, List.all_nil, Bool.not_eq_true', Bool.not_eq_false', and_self, Bool.false_eq_true, Bool.true_eq_false, false_implies, true_and, and_true, bne_self_eq_false, beq_self_eq_true, Int.reduceBEq, Int.reduceBNe, Int.reduceLT, Int.reduceLE, Int.reduceEq, Int.reduceToNat, Int.toNat_natCast, beq_iff_eq, bne_iff_ne, beq_eq_false_iff_ne, bne_eq_false_iff_eq, Decidable.not_not, ↓reduceIte, if_true, if_false, List.map_cons, List.map_nil, List.reduceReplicate, List.nil_append, List.cons_append, List.append_nil, List.length_cons, List.length_nil, Nat.reduceAdd, Nat.reduceSub, Nat.reduceMul, Nat.reduceLT, Nat.reduceLeDiff, Nat.reduceBEq, Nat.reduceEqDiff, decide_true, decide_false, decide_eq_true_eq, decide_eq_false_iff_not, Bool.and_true, Bool.true_and, Bool.and_false, Bool.false_and, Bool.or_true, Bool.true_or, Bool.or_false, Bool.false_or, Bool.not_true, Bool.not_false, sxc, List.getElem?_cons_zero, List.getElem?_cons_succ, List.drop_zero, List.drop_succ_cons, List.take_zero, List.take_succ_cons, List.zip_cons_cons, List.zip_nil_right, List.toList_toArray, Nat.zero_add, Option.map_some, Option.map_none, Option.isSome_some, true_and, and_true, forall_const, ne_eq, not_false_eq_true, true_implies, implies_true]
    refine at_p [I us[us.length - 1 - k].len, I us[us.length - 1 - k].mass, I us[us.length - 1 - k].str] (hr _) twc_len (List.getElem?_eq_getElem hkl) rfl rfl (by omega) fun ad => ?_
    simp (config := { maxSteps := 4000000 }) only [↓sx0, ↓sx1, ↓sx2, ↓sx3, ↓sx4, ↓sx5, ↓sx6, sx0, sx1, sx2, sx3, sx4, sx5, sx6, tf42, ev3_hold, sxo, List.all_cons, List.all_nil, Bool.not_eq_true', Bool.not_eq_false', and_self, Bool.false_eq_true, Bool.true_eq_false, false_implies, true_and, and_true, bne_self_eq_false, beq_self_eq_true, Int.reduceBEq, Int.reduceBNe, Int.reduceLT, Int.reduceLE, Int.reduceEq, Int.reduceToNat, Int.toNat_natCast, beq_iff_eq, bne_iff_ne, beq_eq_false_iff_ne, bne_eq_false_iff_eq, Decidable.not_not, ↓reduceIte, if_true, if_false, List.map_cons, List.map_nil, List.reduceReplicate, List.nil_append, List.cons_append, List.append_nil, List.length_cons, List.length_nil, Nat.reduceAdd, Nat.reduceSub, Nat.reduceMul, Nat.reduceLT, Nat.reduceLeDiff, Nat.reduceBEq, Nat.reduceEqDiff, decide_true, decide_false, decide_eq_true_eq, decide_eq_false_iff_not, Bool.and_true, Bool.true_and, Bool.and_false, Bool.false_and, Bool.or_true, Bool.true_or, Bool.or_false, Bool.false_or, Bool.not_true, Bool.not_false, sxc, List.getElem?_cons_zero, List.getElem?_cons_succ, List.drop_zero, List.drop_succ_cons, List.take_zero, List.take_succ_cons, List.zip_cons_cons, List.zip_nil_right, List.toList_toArray, Nat.zero_add, Option.map_some, Option.map_none, Option.isSome_some, true_and, and_true, forall_const, ne_eq, not_false_eq_true, true_implies, implies_true, hdet]
    refine ⟨fun h1 => ⟨fun h2 => ⟨fun h3 => ⟨_, HImp.refl _ _, rfl, ?_⟩, fun h3 => ⟨_, HImp.refl _ _, rfl, ?_⟩⟩, fun h2 => ⟨_, HImp.refl _ _, rfl, ?_⟩⟩, fun h1 => ⟨_, HImp.refl _ _, rfl, ?_⟩⟩
    · rw [hsl', hsl]
      simp [h1, h2, h3]
    · rw [hsl', hsl]
      simp [h1, h2, h3]
    · rw [hsl', hsl]
      simp [h1, h2]
    · rw [hsl', hsl]
      simp [h1]
  · rintro L' H' - ⟨rfl, rfl⟩
    rw [Nat.sub_self, List.drop_zero]
    have hd2 : ∀ xs, detF (.slice a n c) us 59 xs = none := fun _ => rfl
    simp (config := { maxSteps := 4000000 }) only [↓sx0, ↓sx1, ↓sx2, ↓sx3, ↓sx4, ↓sx5, ↓sx6, sx0, sx1, sx2, sx3, sx4, sx5, sx6, tf42, ev3_hold, sxo, List.all_cons, List.all_nil, Bool.not_eq_true', Bool.not_eq_false', and_self, Bool.false_eq_true, Bool.true_eq_false, false_implies, true_and, and_true, bne_self_eq_false, beq_self_eq_true, Int.reduceBEq, Int.reduceBNe, Int.reduceLT, Int.reduceLE, Int.reduceEq, Int.reduceToNat, Int.toNat_natCast, beq_iff_eq, bne_iff_ne, beq_eq_false_iff_ne, bne_eq_false_iff_eq, Decidable.not_not, ↓reduceIte, if_true, if_false, List.map_cons, List.map_nil, List.reduceReplicate, List.nil_append, List.cons_append, List.append_nil, List.length_cons, List.length_nil, Nat.reduceAdd, Nat.reduceSub, Nat.reduceMul, Nat.reduceLT, Nat.reduceLeDiff, Nat.reduceBEq, Nat.reduceEqDiff, decide_true, decide_false, decide_eq_true_eq, decide_eq_false_iff_not, Bool.and_true, Bool.true_and, Bool.and_false, Bool.false_and, Bool.or_true, Bool.true_or, Bool.or_false, Bool.false_or, Bool.not_true, Bool.not_false, sxc, List.getElem?_cons_zero, List.getElem?_cons_succ, List.drop_zero, List.drop_succ_cons, List.take_zero, List.take_succ_cons, List.zip_cons_cons, List.zip_nil_right, List.toList_toArray, Nat.zero_add, Option.map_some, Option.map_none, Option.isSome_some, true_and, and_true, forall_const, ne_eq, not_false_eq_true, true_implies, implies_true, hd2]
    refine CallOb.pure (fun w' hp => back_fn w' a n c) ?_
    rintro r N ⟨b, rfl, rfl⟩
    simp (config := { maxSteps := 4000000 }) only [↓sx0, ↓sx1, ↓sx2, ↓sx3, ↓sx4, ↓sx5, ↓sx6, sx0, sx1, sx2, sx3, sx4, sx5, sx6, tf42, ev3_hold, sxo, List.all_cons, List.all_nil, Bool.not_eq_true', Bool.not_eq_false', and_self, Bool.false_eq_true, Bool.true_eq_false, false_implies, true_and, and_true, bne_self_eq_false, beq_self_eq_true, Int.reduceBEq, Int.reduceBNe, Int.reduceLT, Int.reduceLE, Int.reduceEq, Int.reduceToNat, Int.toNat_natCast, beq_iff_eq, bne_iff_ne, beq_eq_false_iff_ne, bne_eq_false_iff_eq, Decidable.not_not, ↓reduceIte, if_true, if_false, List.map_cons, List.map_nil, List.reduceReplicate, List.nil_append, List.cons_append, List.append_nil, List.length_cons, List.length_nil, Nat.reduceAdd, Nat.reduceSub, Nat.reduceMul, Nat.reduceLT, Nat.reduceLeDiff, Nat.reduceBEq, Nat.reduceEqDiff, decide_true, decide_false, decide_eq_true_eq, decide_eq_false_iff_not, Bool.and_true, Bool.true_and, Bool.and_false, Bool.false_and, Bool.or_true, Bool.true_or, Bool.or_false, Bool.false_or, Bool.not_true, Bool.not_false, sxc, List.getElem?_cons_zero, List.getElem?_cons_succ, List.drop_zero, List.drop_succ_cons, List.take_zero, List.take_succ_cons, List.zip_cons_cons, List.zip_nil_right, List.toList_toArray, Nat.zero_add, Option.map_some, Option.map_none, Option.isSome_some, true_and, and_true, forall_const, ne_eq, not_false_eq_true, true_implies, implies_true]
    refine range_introR Try.call62 n (backArg us) [.cells b 32 [.slice a n c]] [] (fun k L' H' => H' = [] ∧ ∃ e : Int × Int, canL v d (us.drop (n - k)) = some e ∧ L' = [(81, [.slice a n c]), (3, [I v]), (3, [I d]), (4, [.bool (sureL v d us)]), (4, [.bool false]), (23, [I e.1, I e.2])]) (fun x => x = b ∨ rsl w (.slice a n c) x)
      (HImp.refl _ _) (fun x hx => ?_) (fun w' hp => ?_) ⟨rfl, (0, 0), ?_, rfl⟩ ?_ ?_ ?_
    · rcases hx with rfl | hx
      · exact .inr ⟨_, List.mem_singleton.2 rfl, rfl⟩
      · exact .inl ⟨hx.2, id⟩
    · have := back_it w' b (.slice a n c) us (cells_hp List.mem_cons_self hp) (hs.hpR (fun _ _ => id) hp) (by omega)
      rw [hn] at this
      exact this.mono fun x hx => hx.imp id (hs.rsl (by rw [twcs_cat, cat_len twc_len]; have := hok.1; omega))
    · rw [Nat.sub_zero, List.drop_of_length_le (by omega)]
      rfl
    · rintro k vs F ⟨u, _, rfl, _⟩
      rfl
    · rintro k vs F L' H' hk ⟨u, hu, rfl, rfl⟩ - ⟨rfl, e, he, rfl⟩
      have hkl : us.length - 1 - k < us.length := by omega
      have hue : u = us[us.length - 1 - k] := by rw [List.getElem?_eq_getElem hkl] at hu; exact (Option.some.inj hu).symm
      have hb := bounds_pre (u := u) hv hd
      have hdet := detF_bounds us (.slice a n c) (a := u.len) (c := u.str) hb.1 hb.2
      have hcl := canL_drop (v := v) (d := d) hkl
      rw [show us.length - 1 - k + 1 = n - k by omega, he, ← hue] at hcl
      have hcl' : n - (k + 1) = us.length - 1 - k := by omega
      simp only [Option.bind] at hcl
      simp (config := { maxSteps := 4000000 }) only [↓sx0, ↓sx1, ↓sx2, ↓sx3, ↓sx4, ↓sx5, ↓sx6, sx0, sx1, sx2, sx3, sx4, sx5, sx6, tf42, ev3_hold, sxo, List.all_cons, List.all_nil, Bool.not_eq_true', Bool.not_eq_false', and_self, Bool.false_eq_true, Bool.true_eq_false, false_implies, true_and, and_true, bne_self_eq_false, beq_self_eq_true, Int.reduceBEq, Int.reduceBNe, Int.reduceLT, Int.reduceLE, Int.reduceEq, Int.reduceToNat, Int.toNat_natCast, beq_iff_eq, bne_iff_ne, beq_eq_false_iff_ne, bne_eq_false_iff_eq, Decidable.not_not, ↓reduceIte, if_true, if_false, List.map_cons, List.map_nil, List.reduceReplicate, List.nil_append, List.cons_append, List.append_nil, List.length_cons, List.length_nil, Nat.reduceAdd, Nat.reduceSub, Nat.reduceMul, Nat.reduceLT, Nat.reduceLeDiff, Nat.reduceBEq, Nat.reduceEqDiff, decide_true, decide_false, decide_eq_true_eq, decide_eq_false_iff_not, Bool.and_true, Bool.true_and, Bool.and_false, Bool.false_and, Bool.or_true, Bool.true_or, Bool.or_false, Bool.false_or, Bool.not_true, Bool.not_false, sxc, List.getElem?_cons_zero, List.getElem?_cons_succ, List.drop_zero, List.drop_succ_cons, List.take_zero, List.take_succ_cons, List.zip_cons_cons, List.zip_nil_right, List.toList_toArray, Nat.zero_add, Option.map_some, Option.map_none, Option.isSome_some, true_and, and_true, forall_const, ne_eq, not_false_eq_true, true_implies, implies_true, twc]
      refine at_p [I u.len, I u.mass, I u.str] (hr _) twc_len hu rfl rfl (by omega) fun ad => ?_
      simp (config := { maxSteps := 4000000 }) only [↓sx0, ↓sx1, ↓sx2, ↓sx3, ↓sx4, ↓sx5, ↓sx6, sx0, sx1, sx2, sx3, sx4, sx5, sx6, tf42, ev3_hold, sxo, List.all_cons, List.all_nil, Bool.not_eq_true', Bool.not_eq_false', and_self, Bool.false_eq_true, Bool.true_eq_false, false_implies, true_and, and_true, bne_self_eq_false, beq_self_eq_true, Int.reduceBEq, Int.reduceBNe, Int.reduceLT, Int.reduceLE, Int.reduceEq, Int.reduceToNat, Int.toNat_natCast, beq_iff_eq, bne_iff_ne, beq_eq_false_iff_ne, bne_eq_false_iff_eq, Decidable.not_not, ↓reduceIte, if_true, if_false, List.map_cons, List.map_nil, List.reduceReplicate, List.nil_append, List.cons_append, List.append_nil, List.length_cons, List.length_nil, Nat.reduceAdd, Nat.reduceSub, Nat.reduceMul, Nat.reduceLT, Nat.reduceLeDiff, Nat.reduceBEq, Nat.reduceEqDiff, decide_true, decide_false, decide_eq_true_eq, decide_eq_false_iff_not, Bool.and_true, Bool.true_and, Bool.and_false, Bool.false_and, Bool.or_true, Bool.true_or, Bool.or_false, Bool.false_or, Bool.not_true, Bool.not_false, sxc, List.getElem?_cons_zero, List.getElem?_cons_succ, List.drop_zero, List.drop_succ_cons, List.take_zero, List.take_succ_cons, List.zip_cons_cons, List.zip_nil_right, List.toList_toArray, Nat.zero_add, Option.map_some, Option.map_none, Option.isSome_some, true_and, and_true, forall_const, ne_eq, not_false_eq_true, true_implies, implies_true, hdet]
      have nn : ∀ x : Option (Int × Int), canStep v d u e = x → canL v d (us.drop (n - (k + 1))) = x := fun x h => by rw [hcl', hcl, h]
      refine ⟨fun h1 => ⟨fun h2 => ⟨_, HImp.refl _ _, ?_⟩, fun h2 => ⟨_, HImp.refl _ _, rfl, _, nn _ (if_pos ⟨h1, h2⟩), rfl⟩⟩, fun h1 => ⟨_, HImp.refl _ _, ?_⟩⟩
      · rw [canL_none (nn none (if_neg fun h => h.2 h2))]
        rfl
      · rw [canL_none (nn none (if_neg fun h => by rw [h1] at h; cases h.1))]
        rfl
    · rintro L' H' - ⟨rfl, e, he, rfl⟩
      rw [Nat.sub_self, List.drop_zero] at he
      simp (config := { maxSteps := 4000000 }) only [↓sx0, ↓sx1, ↓sx2, ↓sx3, ↓sx4, ↓sx5, ↓sx6, sx0, sx1, sx2, sx3, sx4, sx5, sx6, tf42, ev3_hold, sxo, List.all_cons, List.all_nil, Bool.not_eq_true', Bool.not_eq_false', and_self, Bool.false_eq_true, Bool.true_eq_false, false_implies, true_and, and_true, bne_self_eq_false, beq_self_eq_true, Int.reduceBEq, Int.reduceBNe, Int.reduceLT, Int.reduceLE, Int.reduceEq, Int.reduceToNat, Int.toNat_natCast, beq_iff_eq, bne_iff_ne, beq_eq_false_iff_ne, bne_eq_false_iff_eq, Decidable.not_not, ↓reduceIte, if_true, if_false, List.map_cons, List.map_nil, List.reduceReplicate, List.nil_append, List.cons_append, List.append_nil, List.length_cons, List.length_nil, Nat.reduceAdd, Nat.reduceSub, Nat.reduceMul, Nat.reduceLT, Nat.reduceLeDiff, Nat.reduceBEq, Nat.reduceEqDiff, decide_true, decide_false, decide_eq_true_eq, decide_eq_false_iff_not, Bool.and_true, Bool.true_and, Bool.and_false, Bool.false_and, Bool.or_true, Bool.true_or, Bool.or_false, Bool.false_or, Bool.not_true, Bool.not_false, sxc, List.getElem?_cons_zero, List.getElem?_cons_succ, List.drop_zero, List.drop_succ_cons, List.take_zero, List.take_succ_cons, List.zip_cons_cons, List.zip_nil_right, List.toList_toArray, Nat.zero_add, Option.map_some, Option.map_none, Option.isSome_some, true_and, and_true, forall_const, ne_eq, not_false_eq_true, true_implies, implies_true, he]

end Go.Proofs.Ytpfbpelkodlljaa
