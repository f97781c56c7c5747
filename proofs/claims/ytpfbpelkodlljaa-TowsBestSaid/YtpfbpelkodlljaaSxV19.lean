/- A part of a proof: the symbolic walk and what it shows of single functions. -/
import Derived.Test.YtpfbpelkodlljaaSxV18
set_option linter.all false
namespace Go.Proofs.Ytpfbpelkodlljaa
open Go.RowKit Go.SX
set_option maxRecDepth 4000
set_option maxHeartbeats 8000000
set_option linter.unusedSimpArgs false
set_option linter.unusedVariables false

/-! ### The reference's order -/

abbrev nts (p : List Nat) : List Int := p.map fun k : Nat => (k : Int)

theorem orderT_len {us : List Tw} : ∀ {p : List Nat}, (∀ i ∈ p, i < us.length) → (orderT us p).length = p.length
  | [], _ => rfl
  | i :: p, h => by
    have := orderT_len (us := us) (p := p) fun j hj => h j (List.mem_cons_of_mem _ hj)
    unfold orderT at this ⊢
    rw [List.filterMap_cons, List.getElem?_eq_getElem (h i List.mem_cons_self)]
    simp [this]

theorem orderT_ok {us : List Tw} (hok : okT us) {p : List Nat} (h : ∀ i ∈ p, i < us.length) (h1 : 1 ≤ p.length) (h8 : p.length ≤ 8) : okT (orderT us p) := by
  refine ⟨by rw [orderT_len h]; exact h1, by rw [orderT_len h]; exact h8, fun u hu => ?_⟩
  unfold orderT at hu
  rw [List.mem_filterMap] at hu
  obtain ⟨i, _, hi⟩ := hu
  exact hok.2.2 u (List.mem_of_getElem? hi)

theorem orderT_snoc {us : List Tw} {p : List Nat} {i : Nat} (h : i < us.length) : orderT us (p ++ [i]) = orderT us p ++ [us[i]] := by
  unfold orderT
  rw [List.filterMap_append]
  simp [List.getElem?_eq_getElem h]

theorem fv_le (us : List Tw) : ∀ l, fv us l ≤ 20
  | [] => Nat.le_refl _
  | i :: l => by have := fv_le us l; rw [fv]; omega

theorem fastest_fn (w : World) (s o : Value) (us : List Tw) (p : List Nat) (hs : Sl w s 5 (twcs us)) (hok : okT us) (ho : Sl w o 1 (ints (nts p))) (hp : ∀ i ∈ p, i < us.length) (h1 : 1 ≤ p.length) (hp8 : p.length ≤ 8) :
    SX.Fn Try.prog 33 [.agg #[s], o] w (fun _ => False) fun r N => r = I (fv us p) := by
  obtain ⟨a, n, c, rfl⟩ := hs.shape
  obtain ⟨a', n', c', rfl⟩ := ho.shape
  have hn := hs.le (f := twc) twc_len (by omega)
  have hn' := ho.le i1_len (by omega)
  rw [List.length_map] at hn'
  have hr := hs.rd0
  have hr' := ho.rd0
  have hD := detG_ok (X := fun _ => False) hs (fun _ _ => id)
  have dn : (∀ xs, detG (.slice a n c) us 54 xs = none) := fun _ => rfl
  refine walk [] [] hD Try.func33 rfl Try.ntmps33 res33 (by kernel_rfl) no_facts ?_
  simp (config := { maxSteps := 4000000 }) only [↓sx0, ↓sx1, ↓sx2, ↓sx3, ↓sx4, ↓sx5, ↓sx6, sx0, sx1, sx2, sx3, sx4, sx5, sx6, tf33, ev3_hold, sxo, List.all_cons, List.all_nil, Bool.not_eq_true', Bool.not_eq_false', and_self, Bool.false_eq_true, Bool.true_eq_false, false_implies, true_and, and_true, bne_self_eq_false, beq_self_eq_true, Int.reduceBEq, Int.reduceBNe, Int.reduceLT, Int.reduceLE, Int.reduceEq, Int.reduceToNat, Int.toNat_natCast, beq_iff_eq, bne_iff_ne, beq_eq_false_iff_ne, bne_eq_false_iff_eq, Decidable.not_not, ↓reduceIte, if_true, if_false, List.map_cons, List.map_nil, List.reduceReplicate, List.nil_append, List.cons_append, List.append_nil, List.length_cons, List.length_nil, Nat.reduceAdd, Nat.reduceSub, Nat.reduceMul, Nat.reduceLT, Nat.reduceLeDiff, Nat.reduceBEq, Nat.reduceEqDiff, decide_true, decide_false, decide_eq_true_eq, decide_eq_false_iff_not, Bool.and_true, Bool.true_and, Bool.and_false, Bool.false_and, Bool.or_true, Bool.true_or, Bool.or_false, Bool.false_or, Bool.not_true, Bool.not_false, sxc, List.getElem?_cons_zero, List.getElem?_cons_succ, List.drop_zero, List.drop_succ_cons, List.take_zero, List.take_succ_cons, List.zip_cons_cons, List.zip_nil_right, List.toList_toArray, Nat.zero_add, Option.map_some, Option.map_none, Option.isSome_some, true_and, and_true, forall_const, ne_eq, not_false_eq_true, not_true_eq_false, true_implies, implies_true]
  refine loop_boxI [.row (.slice none 0 0) 43 5 (cat twc [])] (HImp.nilRow _ _ _ _) [(6, 6), (8, 26)] (fun q : Nat × Value => [(6, I q.1)]) (fun q => [(34, [.slice a n c]), (34, [q.2])])
    (fun q H1 => q.1 ≤ n' ∧ ∃ ad c1, q.2 = .slice ad q.1 c1 ∧ (ad = none → q.1 = 0) ∧ H1 = [.row q.2 43 5 (cat twc (orderT us (p.take q.1)))]) (fun q => n' - q.1) (0, .slice none 0 0) ?_ rfl (fun _ => rfl) ⟨Nat.zero_le _, none, 0, rfl, fun _ => rfl, rfl⟩ ?_
  · simp (config := { maxSteps := 4000000 }) only [↓sx0, ↓sx1, ↓sx2, ↓sx3, ↓sx4, ↓sx5, ↓sx6, sx0, sx1, sx2, sx3, sx4, sx5, sx6, tf33, ev3_hold, sxo, List.all_cons, List.all_nil, Bool.not_eq_true', Bool.not_eq_false', and_self, Bool.false_eq_true, Bool.true_eq_false, false_implies, true_and, and_true, bne_self_eq_false, beq_self_eq_true, Int.reduceBEq, Int.reduceBNe, Int.reduceLT, Int.reduceLE, Int.reduceEq, Int.reduceToNat, Int.toNat_natCast, beq_iff_eq, bne_iff_ne, beq_eq_false_iff_ne, bne_eq_false_iff_eq, Decidable.not_not, ↓reduceIte, if_true, if_false, List.map_cons, List.map_nil, List.reduceReplicate, List.nil_append, List.cons_append, List.append_nil, List.length_cons, List.length_nil, Nat.reduceAdd, Nat.reduceSub, Nat.reduceMul, Nat.reduceLT, Nat.reduceLeDiff, Nat.reduceBEq, Nat.reduceEqDiff, decide_true, decide_false, decide_eq_true_eq, decide_eq_false_iff_not, Bool.and_true, Bool.true_and, Bool.and_false, Bool.false_and, Bool.or_true, Bool.true_or, Bool.or_false, Bool.false_or, Bool.not_true, Bool.not_false, sxc, List.getElem?_cons_zero, List.getElem?_cons_succ, List.drop_zero, List.drop_succ_cons, List.take_zero, List.take_succ_cons, List.zip_cons_cons, List.zip_nil_right, List.toList_toArray, Nat.zero_add, Option.map_some, Option.map_none, Option.isSome_some, true_and, and_true, forall_const, ne_eq, not_false_eq_true, not_true_eq_false, true_implies, implies_true]
    simp
  · rintro ⟨k, x⟩ H1 g hinv
    simp only [] at hinv
    obtain ⟨hk, ad, c1, rfl, h0, rfl⟩ := hinv
    by_cases hkn : k = n'
    · subst hkn
      have e7 : ((k : Int) < (k : Int)) = False := eq_false (by omega)
      have htk : p.take k = p := List.take_of_length_le (by omega)
      rw [htk]
      have hoko := orderT_ok hok hp h1 hp8
      have hlen := orderT_len (us := us) hp
      simp (config := { maxSteps := 4000000 }) only [↓sx0, ↓sx1, ↓sx2, ↓sx3, ↓sx4, ↓sx5, ↓sx6, sx0, sx1, sx2, sx3, sx4, sx5, sx6, tf33, ev3_hold, sxo, List.all_cons, List.all_nil, Bool.not_eq_true', Bool.not_eq_false', and_self, Bool.false_eq_true, Bool.true_eq_false, false_implies, true_and, and_true, bne_self_eq_false, beq_self_eq_true, Int.reduceBEq, Int.reduceBNe, Int.reduceLT, Int.reduceLE, Int.reduceEq, Int.reduceToNat, Int.toNat_natCast, beq_iff_eq, bne_iff_ne, beq_eq_false_iff_ne, bne_eq_false_iff_eq, Decidable.not_not, ↓reduceIte, if_true, if_false, List.map_cons, List.map_nil, List.reduceReplicate, List.nil_append, List.cons_append, List.append_nil, List.length_cons, List.length_nil, Nat.reduceAdd, Nat.reduceSub, Nat.reduceMul, Nat.reduceLT, Nat.reduceLeDiff, Nat.reduceBEq, Nat.reduceEqDiff, decide_true, decide_false, decide_eq_true_eq, decide_eq_false_iff_not, Bool.and_true, Bool.true_and, Bool.and_false, Bool.false_and, Bool.or_true, Bool.true_or, Bool.or_false, Bool.false_or, Bool.not_true, Bool.not_false, sxc, List.getElem?_cons_zero, List.getElem?_cons_succ, List.drop_zero, List.drop_succ_cons, List.take_zero, List.take_succ_cons, List.zip_cons_cons, List.zip_nil_right, List.toList_toArray, Nat.zero_add, Option.map_some, Option.map_none, Option.isSome_some, true_and, and_true, forall_const, ne_eq, not_false_eq_true, not_true_eq_false, true_implies, implies_true, e7]
      refine loop_const [(7, 7), (27, 37)] (fun v : Nat => [(7, I v)]) (fun v H1 => v ≤ 20 ∧ v ≤ fv us p ∧ H1 = [.row (.slice ad k c1) 43 5 (cat twc (orderT us p))]) (fun v => 20 - v) 0 ?_ ⟨Nat.zero_le _, Nat.zero_le _, rfl⟩ ?_
      · simp (config := { maxSteps := 4000000 }) only [↓sx0, ↓sx1, ↓sx2, ↓sx3, ↓sx4, ↓sx5, ↓sx6, sx0, sx1, sx2, sx3, sx4, sx5, sx6, tf33, ev3_hold, sxo, List.all_cons, List.all_nil, Bool.not_eq_true', Bool.not_eq_false', and_self, Bool.false_eq_true, Bool.true_eq_false, false_implies, true_and, and_true, bne_self_eq_false, beq_self_eq_true, Int.reduceBEq, Int.reduceBNe, Int.reduceLT, Int.reduceLE, Int.reduceEq, Int.reduceToNat, Int.toNat_natCast, beq_iff_eq, bne_iff_ne, beq_eq_false_iff_ne, bne_eq_false_iff_eq, Decidable.not_not, ↓reduceIte, if_true, if_false, List.map_cons, List.map_nil, List.reduceReplicate, List.nil_append, List.cons_append, List.append_nil, List.length_cons, List.length_nil, Nat.reduceAdd, Nat.reduceSub, Nat.reduceMul, Nat.reduceLT, Nat.reduceLeDiff, Nat.reduceBEq, Nat.reduceEqDiff, decide_true, decide_false, decide_eq_true_eq, decide_eq_false_iff_not, Bool.and_true, Bool.true_and, Bool.and_false, Bool.false_and, Bool.or_true, Bool.true_or, Bool.or_false, Bool.false_or, Bool.not_true, Bool.not_false, sxc, List.getElem?_cons_zero, List.getElem?_cons_succ, List.drop_zero, List.drop_succ_cons, List.take_zero, List.take_succ_cons, List.zip_cons_cons, List.zip_nil_right, List.toList_toArray, Nat.zero_add, Option.map_some, Option.map_none, Option.isSome_some, true_and, and_true, forall_const, ne_eq, not_false_eq_true, not_true_eq_false, true_implies, implies_true]
        simp
      · rintro v H1 g2 ⟨hv, hvf, rfl⟩
        by_cases hv20 : v = 20
        · subst hv20
          have e8 : (((20 : Nat) : Int) < 20) = False := eq_false (by omega)
          simp (config := { maxSteps := 4000000 }) only [↓sx0, ↓sx1, ↓sx2, ↓sx3, ↓sx4, ↓sx5, ↓sx6, sx0, sx1, sx2, sx3, sx4, sx5, sx6, tf33, ev3_hold, sxo, List.all_cons, List.all_nil, Bool.not_eq_true', Bool.not_eq_false', and_self, Bool.false_eq_true, Bool.true_eq_false, false_implies, true_and, and_true, bne_self_eq_false, beq_self_eq_true, Int.reduceBEq, Int.reduceBNe, Int.reduceLT, Int.reduceLE, Int.reduceEq, Int.reduceToNat, Int.toNat_natCast, beq_iff_eq, bne_iff_ne, beq_eq_false_iff_ne, bne_eq_false_iff_eq, Decidable.not_not, ↓reduceIte, if_true, if_false, List.map_cons, List.map_nil, List.reduceReplicate, List.nil_append, List.cons_append, List.append_nil, List.length_cons, List.length_nil, Nat.reduceAdd, Nat.reduceSub, Nat.reduceMul, Nat.reduceLT, Nat.reduceLeDiff, Nat.reduceBEq, Nat.reduceEqDiff, decide_true, decide_false, decide_eq_true_eq, decide_eq_false_iff_not, Bool.and_true, Bool.true_and, Bool.and_false, Bool.false_and, Bool.or_true, Bool.true_or, Bool.or_false, Bool.false_or, Bool.not_true, Bool.not_false, sxc, List.getElem?_cons_zero, List.getElem?_cons_succ, List.drop_zero, List.drop_succ_cons, List.take_zero, List.take_succ_cons, List.zip_cons_cons, List.zip_nil_right, List.toList_toArray, Nat.zero_add, Option.map_some, Option.map_none, Option.isSome_some, true_and, and_true, forall_const, ne_eq, not_false_eq_true, not_true_eq_false, true_implies, implies_true, e8]
          have := fv_le us p
          rw [show fv us p = 20 by omega]
        · have e8 : ((v : Int) < 20) = True := eq_true (by omega)
          have e9 : wr ((v : Int) + 1) = ((v + 1 : Nat) : Int) := (wrap_id (by omega)).trans (by omega)
          simp (config := { maxSteps := 4000000 }) only [↓sx0, ↓sx1, ↓sx2, ↓sx3, ↓sx4, ↓sx5, ↓sx6, sx0, sx1, sx2, sx3, sx4, sx5, sx6, tf33, ev3_hold, sxo, List.all_cons, List.all_nil, Bool.not_eq_true', Bool.not_eq_false', and_self, Bool.false_eq_true, Bool.true_eq_false, false_implies, true_and, and_true, bne_self_eq_false, beq_self_eq_true, Int.reduceBEq, Int.reduceBNe, Int.reduceLT, Int.reduceLE, Int.reduceEq, Int.reduceToNat, Int.toNat_natCast, beq_iff_eq, bne_iff_ne, beq_eq_false_iff_ne, bne_eq_false_iff_eq, Decidable.not_not, ↓reduceIte, if_true, if_false, List.map_cons, List.map_nil, List.reduceReplicate, List.nil_append, List.cons_append, List.append_nil, List.length_cons, List.length_nil, Nat.reduceAdd, Nat.reduceSub, Nat.reduceMul, Nat.reduceLT, Nat.reduceLeDiff, Nat.reduceBEq, Nat.reduceEqDiff, decide_true, decide_false, decide_eq_true_eq, decide_eq_false_iff_not, Bool.and_true, Bool.true_and, Bool.and_false, Bool.false_and, Bool.or_true, Bool.true_or, Bool.or_false, Bool.false_or, Bool.not_true, Bool.not_false, sxc, List.getElem?_cons_zero, List.getElem?_cons_succ, List.drop_zero, List.drop_succ_cons, List.take_zero, List.take_succ_cons, List.zip_cons_cons, List.zip_nil_right, List.toList_toArray, Nat.zero_add, Option.map_some, Option.map_none, Option.isSome_some, true_and, and_true, forall_const, ne_eq, not_false_eq_true, not_true_eq_false, true_implies, implies_true, e8, e9, dn]
          refine CallOb.pure (fun w' hp' => parts_fn w' _ (orderT us p) (v + 1) (row_hp List.mem_cons_self hp') hoko (by omega)) ?_
          rintro r N rfl
          have hfv := fv_spdAt hok p hp (v + 1) (by omega)
          rcases parts_spec (orderT us p) (v + 1) with ⟨h1, h2⟩ | ⟨i, h1, h2, h3, h4⟩
          · rw [h1]
            have e11 : ((-1 : Int) < 0) = True := eq_true (by omega)
            simp (config := { maxSteps := 4000000 }) only [↓sx0, ↓sx1, ↓sx2, ↓sx3, ↓sx4, ↓sx5, ↓sx6, sx0, sx1, sx2, sx3, sx4, sx5, sx6, tf33, ev3_hold, sxo, List.all_cons, List.all_nil, Bool.not_eq_true', Bool.not_eq_false', and_self, Bool.false_eq_true, Bool.true_eq_false, false_implies, true_and, and_true, bne_self_eq_false, beq_self_eq_true, Int.reduceBEq, Int.reduceBNe, Int.reduceLT, Int.reduceLE, Int.reduceEq, Int.reduceToNat, Int.toNat_natCast, beq_iff_eq, bne_iff_ne, beq_eq_false_iff_ne, bne_eq_false_iff_eq, Decidable.not_not, ↓reduceIte, if_true, if_false, List.map_cons, List.map_nil, List.reduceReplicate, List.nil_append, List.cons_append, List.append_nil, List.length_cons, List.length_nil, Nat.reduceAdd, Nat.reduceSub, Nat.reduceMul, Nat.reduceLT, Nat.reduceLeDiff, Nat.reduceBEq, Nat.reduceEqDiff, decide_true, decide_false, decide_eq_true_eq, decide_eq_false_iff_not, Bool.and_true, Bool.true_and, Bool.and_false, Bool.false_and, Bool.or_true, Bool.true_or, Bool.or_false, Bool.false_or, Bool.not_true, Bool.not_false, sxc, List.getElem?_cons_zero, List.getElem?_cons_succ, List.drop_zero, List.drop_succ_cons, List.take_zero, List.take_succ_cons, List.zip_cons_cons, List.zip_nil_right, List.toList_toArray, Nat.zero_add, Option.map_some, Option.map_none, Option.isSome_some, true_and, and_true, forall_const, ne_eq, not_false_eq_true, not_true_eq_false, true_implies, implies_true, e8, e9, e11]
            exact ⟨v + 1, _, rfl, HImp.app _ _ _, ⟨by omega, hfv.2 h2, rfl⟩, by omega⟩
          · rw [h1]
            have e10 : ((i : Int) < 0) = False := eq_false (by omega)
            simp (config := { maxSteps := 4000000 }) only [↓sx0, ↓sx1, ↓sx2, ↓sx3, ↓sx4, ↓sx5, ↓sx6, sx0, sx1, sx2, sx3, sx4, sx5, sx6, tf33, ev3_hold, sxo, List.all_cons, List.all_nil, Bool.not_eq_true', Bool.not_eq_false', and_self, Bool.false_eq_true, Bool.true_eq_false, false_implies, true_and, and_true, bne_self_eq_false, beq_self_eq_true, Int.reduceBEq, Int.reduceBNe, Int.reduceLT, Int.reduceLE, Int.reduceEq, Int.reduceToNat, Int.toNat_natCast, beq_iff_eq, bne_iff_ne, beq_eq_false_iff_ne, bne_eq_false_iff_eq, Decidable.not_not, ↓reduceIte, if_true, if_false, List.map_cons, List.map_nil, List.reduceReplicate, List.nil_append, List.cons_append, List.append_nil, List.length_cons, List.length_nil, Nat.reduceAdd, Nat.reduceSub, Nat.reduceMul, Nat.reduceLT, Nat.reduceLeDiff, Nat.reduceBEq, Nat.reduceEqDiff, decide_true, decide_false, decide_eq_true_eq, decide_eq_false_iff_not, Bool.and_true, Bool.true_and, Bool.and_false, Bool.false_and, Bool.or_true, Bool.true_or, Bool.or_false, Bool.false_or, Bool.not_true, Bool.not_false, sxc, List.getElem?_cons_zero, List.getElem?_cons_succ, List.drop_zero, List.drop_succ_cons, List.take_zero, List.take_succ_cons, List.zip_cons_cons, List.zip_nil_right, List.toList_toArray, Nat.zero_add, Option.map_some, Option.map_none, Option.isSome_some, true_and, and_true, forall_const, ne_eq, not_false_eq_true, not_true_eq_false, true_implies, implies_true, e8, e9, e10]
            have : ¬ v + 1 ≤ fv us p := fun h => by have := hfv.1 h i h2; omega
            rw [show fv us p = v by omega]
    · have e7 : ((k : Int) < (n' : Int)) = True := eq_true (by omega)
      have e8 : wr ((k : Int) + 1) = ((k + 1 : Nat) : Int) := (wrap_id (by omega)).trans (by omega)
      have hkp : k < p.length := by omega
      have hpk := hp p[k] (List.getElem_mem hkp)
      have hkq : (nts p)[k]? = some ((p[k] : Nat) : Int) := by simp [List.getElem?_eq_getElem hkp]
      have htl : (orderT us (p.take k)).length = k := by rw [orderT_len fun i hi => hp i (List.mem_of_mem_take hi), List.length_take]; omega
      simp (config := { maxSteps := 4000000 }) only [↓sx0, ↓sx1, ↓sx2, ↓sx3, ↓sx4, ↓sx5, ↓sx6, sx0, sx1, sx2, sx3, sx4, sx5, sx6, tf33, ev3_hold, sxo, List.all_cons, List.all_nil, Bool.not_eq_true', Bool.not_eq_false', and_self, Bool.false_eq_true, Bool.true_eq_false, false_implies, true_and, and_true, bne_self_eq_false, beq_self_eq_true, Int.reduceBEq, Int.reduceBNe, Int.reduceLT, Int.reduceLE, Int.reduceEq, Int.reduceToNat, Int.toNat_natCast, beq_iff_eq, bne_iff_ne, beq_eq_false_iff_ne, bne_eq_false_iff_eq, Decidable.not_not, ↓reduceIte, if_true, if_false, List.map_cons, List.map_nil, List.reduceReplicate, List.nil_append, List.cons_append, List.append_nil, List.length_cons, List.length_nil, Nat.reduceAdd, Nat.reduceSub, Nat.reduceMul, Nat.reduceLT, Nat.reduceLeDiff, Nat.reduceBEq, Nat.reduceEqDiff, decide_true, decide_false, decide_eq_true_eq, decide_eq_false_iff_not, Bool.and_true, Bool.true_and, Bool.and_false, Bool.false_and, Bool.or_true, Bool.true_or, Bool.or_false, Bool.false_or, Bool.not_true, Bool.not_false, sxc, List.getElem?_cons_zero, List.getElem?_cons_succ, List.drop_zero, List.drop_succ_cons, List.take_zero, List.take_succ_cons, List.zip_cons_cons, List.zip_nil_right, List.toList_toArray, Nat.zero_add, Option.map_some, Option.map_none, Option.isSome_some, true_and, and_true, forall_const, ne_eq, not_false_eq_true, not_true_eq_false, true_implies, implies_true, e7]
      refine amid (at_1 (hr' _) i1_len hkq rfl fun ad1 => ?_)
      simp (config := { maxSteps := 4000000 }) only [↓sx0, ↓sx1, ↓sx2, ↓sx3, ↓sx4, ↓sx5, ↓sx6, sx0, sx1, sx2, sx3, sx4, sx5, sx6, tf33, ev3_hold, sxo, List.all_cons, List.all_nil, Bool.not_eq_true', Bool.not_eq_false', and_self, Bool.false_eq_true, Bool.true_eq_false, false_implies, true_and, and_true, bne_self_eq_false, beq_self_eq_true, Int.reduceBEq, Int.reduceBNe, Int.reduceLT, Int.reduceLE, Int.reduceEq, Int.reduceToNat, Int.toNat_natCast, beq_iff_eq, bne_iff_ne, beq_eq_false_iff_ne, bne_eq_false_iff_eq, Decidable.not_not, ↓reduceIte, if_true, if_false, List.map_cons, List.map_nil, List.reduceReplicate, List.nil_append, List.cons_append, List.append_nil, List.length_cons, List.length_nil, Nat.reduceAdd, Nat.reduceSub, Nat.reduceMul, Nat.reduceLT, Nat.reduceLeDiff, Nat.reduceBEq, Nat.reduceEqDiff, decide_true, decide_false, decide_eq_true_eq, decide_eq_false_iff_not, Bool.and_true, Bool.true_and, Bool.and_false, Bool.false_and, Bool.or_true, Bool.true_or, Bool.or_false, Bool.false_or, Bool.not_true, Bool.not_false, sxc, List.getElem?_cons_zero, List.getElem?_cons_succ, List.drop_zero, List.drop_succ_cons, List.take_zero, List.take_succ_cons, List.zip_cons_cons, List.zip_nil_right, List.toList_toArray, Nat.zero_add, Option.map_some, Option.map_none, Option.isSome_some, true_and, and_true, forall_const, ne_eq, not_false_eq_true, not_true_eq_false, true_implies, implies_true]
      refine at_n (hr _) twc_len (by omega) (List.getElem?_eq_getElem hpk) fun ad2 => ?_
      simp (config := { maxSteps := 4000000 }) only [↓sx0, ↓sx1, ↓sx2, ↓sx3, ↓sx4, ↓sx5, ↓sx6, sx0, sx1, sx2, sx3, sx4, sx5, sx6, tf33, ev3_hold, sxo, List.all_cons, List.all_nil, Bool.not_eq_true', Bool.not_eq_false', and_self, Bool.false_eq_true, Bool.true_eq_false, false_implies, true_and, and_true, bne_self_eq_false, beq_self_eq_true, Int.reduceBEq, Int.reduceBNe, Int.reduceLT, Int.reduceLE, Int.reduceEq, Int.reduceToNat, Int.toNat_natCast, beq_iff_eq, bne_iff_ne, beq_eq_false_iff_ne, bne_eq_false_iff_eq, Decidable.not_not, ↓reduceIte, if_true, if_false, List.map_cons, List.map_nil, List.reduceReplicate, List.nil_append, List.cons_append, List.append_nil, List.length_cons, List.length_nil, Nat.reduceAdd, Nat.reduceSub, Nat.reduceMul, Nat.reduceLT, Nat.reduceLeDiff, Nat.reduceBEq, Nat.reduceEqDiff, decide_true, decide_false, decide_eq_true_eq, decide_eq_false_iff_not, Bool.and_true, Bool.true_and, Bool.and_false, Bool.false_and, Bool.or_true, Bool.true_or, Bool.or_false, Bool.false_or, Bool.not_true, Bool.not_false, sxc, List.getElem?_cons_zero, List.getElem?_cons_succ, List.drop_zero, List.drop_succ_cons, List.take_zero, List.take_succ_cons, List.zip_cons_cons, List.zip_nil_right, List.toList_toArray, Nat.zero_add, Option.map_some, Option.map_none, Option.isSome_some, true_and, and_true, forall_const, ne_eq, not_false_eq_true, not_true_eq_false, true_implies, implies_true]
      intro b
      refine app_one (l := orderT us (p.take k)) us[p[k]] (HImp.refl _ _) twc_len twc_one (by omega) fun ad3 c3 => ?_
      rw [htl]
      simp (config := { maxSteps := 4000000 }) only [↓sx0, ↓sx1, ↓sx2, ↓sx3, ↓sx4, ↓sx5, ↓sx6, sx0, sx1, sx2, sx3, sx4, sx5, sx6, tf33, ev3_hold, sxo, List.all_cons, List.all_nil, Bool.not_eq_true', Bool.not_eq_false', and_self, Bool.false_eq_true, Bool.true_eq_false, false_implies, true_and, and_true, bne_self_eq_false, beq_self_eq_true, Int.reduceBEq, Int.reduceBNe, Int.reduceLT, Int.reduceLE, Int.reduceEq, Int.reduceToNat, Int.toNat_natCast, beq_iff_eq, bne_iff_ne, beq_eq_false_iff_ne, bne_eq_false_iff_eq, Decidable.not_not, ↓reduceIte, if_true, if_false, List.map_cons, List.map_nil, List.reduceReplicate, List.nil_append, List.cons_append, List.append_nil, List.length_cons, List.length_nil, Nat.reduceAdd, Nat.reduceSub, Nat.reduceMul, Nat.reduceLT, Nat.reduceLeDiff, Nat.reduceBEq, Nat.reduceEqDiff, decide_true, decide_false, decide_eq_true_eq, decide_eq_false_iff_not, Bool.and_true, Bool.true_and, Bool.and_false, Bool.false_and, Bool.or_true, Bool.true_or, Bool.or_false, Bool.false_or, Bool.not_true, Bool.not_false, sxc, List.getElem?_cons_zero, List.getElem?_cons_succ, List.drop_zero, List.drop_succ_cons, List.take_zero, List.take_succ_cons, List.zip_cons_cons, List.zip_nil_right, List.toList_toArray, Nat.zero_add, Option.map_some, Option.map_none, Option.isSome_some, true_and, and_true, forall_const, ne_eq, not_false_eq_true, not_true_eq_false, true_implies, implies_true, e8]
      refine ⟨(k + 1, .slice (some ad3) (k + 1) c3), _, rfl, rfl, HImp.refl _ _, ⟨by simp only []; omega, some ad3, c3, by simp, (fun h => by cases h), ?_⟩, by simp only []; omega⟩
      rw [List.take_add_one, List.getElem?_eq_getElem hkp, Option.toList_some, orderT_snoc hpk]


/-- The search's contract, with so many units left. -/
def BestOk (us : List Tw) (k : Nat) : Prop := ∀ (w : World) (s o : Value) (p : List Nat) (S : Nat), Sl w s 5 (twcs us) → Sl w o 1 (ints (nts p)) → Pre (2 ^ us.length - 1) p S → cnt S = k →
  SX.Fn Try.prog 56 [.agg #[s], o] w (fun _ => False) fun r N => ∃ x q, r = .tuple #[x, I (fv us (p ++ q))] ∧ isBestP us p S q ∧ ((S = 0 ∧ x = o) ∨ Got x 3 1 i1 (nts (p ++ q)) N)

theorem pre_all {us : List Tw} (hok : okT us) {p : List Nat} {S : Nat} (h : Pre (2 ^ us.length - 1) p S) :
    S < 256 ∧ S < 2 ^ us.length ∧ p.length + cnt S = us.length ∧ (∀ i, i < 8 → (S.testBit i = true ↔ i < us.length ∧ i ∉ p)) ∧ (∀ r, Ord S r → Ord (2 ^ us.length - 1) (p ++ r)) ∧ ∀ i ∈ p, i < us.length := by
  have h8 := hok.2.1
  have hp1 : 1 ≤ 2 ^ us.length ∧ 2 ^ us.length ≤ 256 := ⟨Nat.two_pow_pos _, by have := Nat.pow_le_pow_right (n := 2) (by omega) h8; exact this⟩
  obtain ⟨a, b, c, d⟩ := h.facts (by omega)
  have hA := cnt_all ⟨us.length, by omega⟩
  have hA2 : ∀ i, i < 8 → (2 ^ us.length - 1).testBit i = decide (i < us.length) := fun i hi => hA.2 ⟨i, hi⟩
  have hA1 : cnt (2 ^ us.length - 1) = us.length := hA.1
  refine ⟨by omega, by omega, by omega, fun i hi => ?_, d, ?_⟩
  · rw [c i hi, hA2 i hi, decide_eq_true_iff]
  · clear a b c d hA hA1
    generalize hA' : 2 ^ us.length - 1 = A at h
    induction h with
    | nil => simp
    | @snoc p S i hp hb ih =>
      intro j hj
      rcases List.mem_append.1 hj with hj | hj
      · exact ih j hj
      · simp only [List.mem_singleton] at hj
        subst hj
        obtain ⟨a, b, c, d⟩ := hp.facts (by omega)
        have hj8 := bit8 (by omega) hb
        have h1 := ((c j hj8).1 hb).1
        rw [← hA', hA2 j hj8] at h1
        simpa using h1

theorem best_zero {us : List Tw} (hok : okT us) : BestOk us 0 := by
  intro w s o p S hs ho hpre hk
  obtain ⟨hS, _, hcnt, hmem, hord, hlt⟩ := pre_all hok hpre
  have hS0 : S = 0 := (cnt_facts ⟨S, hS⟩).1.1 hk
  subst hS0
  obtain ⟨a, n, c, rfl⟩ := hs.shape
  obtain ⟨a', n', c', rfl⟩ := ho.shape
  have hn := hs.le (f := twc) twc_len (by omega)
  have hn' := ho.le i1_len (by omega)
  rw [List.length_map] at hn'
  have h8 := hok.2.1
  have h1 := hok.1
  have hD := detG_ok (X := fun _ => False) hs (fun _ _ => id)
  have dn : (∀ xs, detG (.slice a n c) us 33 xs = none) := fun _ => rfl
  refine walk [] [(9, (ones [2, 4] (.alt 0 (.alt 1 (.alt 3 (ones [5, 6, 7, 8, 9, 10, 11, 12] .fin) (.alt 5 (ones [3, 6, 7, 8, 9, 10, 11, 12] .fin) .no)) (.alt 5 (ones [1, 3, 6, 7, 8, 9, 10, 11, 12] .fin) .no)) (.alt 1 (.alt 0 (.alt 3 (ones [5, 6, 7, 8, 9, 10, 11, 12] .fin) (.alt 5 (ones [3, 6, 7, 8, 9, 10, 11, 12] .fin) .no)) (.alt 3 (.alt 0 (ones [5, 6, 7, 8, 9, 10, 11, 12] .fin) (.alt 5 (.alt 0 (ones [6, 7, 8, 9, 10, 11, 12] .fin) (.alt 6 (ones [0, 7, 8, 9, 10, 11, 12] .fin) .no)) .no)) (.alt 5 (.alt 0 (ones [3, 6, 7, 8, 9, 10, 11, 12] .fin) (.alt 3 (.alt 0 (ones [6, 7, 8, 9, 10, 11, 12] .fin) (.alt 6 (ones [0, 7, 8, 9, 10, 11, 12] .fin) .no)) .no)) .no))) (.alt 5 (.alt 0 (ones [1, 3, 6, 7, 8, 9, 10, 11, 12] .fin) (.alt 1 (.alt 0 (ones [3, 6, 7, 8, 9, 10, 11, 12] .fin) (.alt 3 (.alt 0 (ones [6, 7, 8, 9, 10, 11, 12] .fin) (.alt 6 (ones [0, 7, 8, 9, 10, 11, 12] .fin) .no)) .no)) .no)) .no)))))] hD Try.func56 rfl Try.ntmps56 res56 (by kernel_rfl) no_facts ?_
  have e1 : ((n' : Int) = (n : Int)) = True := eq_true (by omega)
  simp (config := { maxSteps := 4000000 }) only [↓sx0, ↓sx1, ↓sx2, ↓sx3, ↓sx4, ↓sx5, ↓sx6, sx0, sx1, sx2, sx3, sx4, sx5, sx6, tf56, ev3_hold, sxo, List.all_cons, List.all_nil, Bool.not_eq_true', Bool.not_eq_false', and_self, Bool.false_eq_true, Bool.true_eq_false, false_implies, true_and, and_true, bne_self_eq_false, beq_self_eq_true, Int.reduceBEq, Int.reduceBNe, Int.reduceLT, Int.reduceLE, Int.reduceEq, Int.reduceToNat, Int.toNat_natCast, beq_iff_eq, bne_iff_ne, beq_eq_false_iff_ne, bne_eq_false_iff_eq, Decidable.not_not, ↓reduceIte, if_true, if_false, List.map_cons, List.map_nil, List.reduceReplicate, List.nil_append, List.cons_append, List.append_nil, List.length_cons, List.length_nil, Nat.reduceAdd, Nat.reduceSub, Nat.reduceMul, Nat.reduceLT, Nat.reduceLeDiff, Nat.reduceBEq, Nat.reduceEqDiff, decide_true, decide_false, decide_eq_true_eq, decide_eq_false_iff_not, Bool.and_true, Bool.true_and, Bool.and_false, Bool.false_and, Bool.or_true, Bool.true_or, Bool.or_false, Bool.false_or, Bool.not_true, Bool.not_false, sxc, List.getElem?_cons_zero, List.getElem?_cons_succ, List.drop_zero, List.drop_succ_cons, List.take_zero, List.take_succ_cons, List.zip_cons_cons, List.zip_nil_right, List.toList_toArray, Nat.zero_add, Option.map_some, Option.map_none, Option.isSome_some, true_and, and_true, forall_const, ne_eq, not_false_eq_true, not_true_eq_false, true_implies, implies_true, e1, dn]
  refine CallOb.pure (fun w' hp' => fastest_fn w' _ _ us p (hs.hp (fun _ _ => id) hp') hok (ho.hp (fun _ _ => id) hp') hlt (by omega) (by omega)) ?_
  rintro r N rfl
  simp (config := { maxSteps := 4000000 }) only [↓sx0, ↓sx1, ↓sx2, ↓sx3, ↓sx4, ↓sx5, ↓sx6, sx0, sx1, sx2, sx3, sx4, sx5, sx6, tf56, ev3_hold, sxo, List.all_cons, List.all_nil, Bool.not_eq_true', Bool.not_eq_false', and_self, Bool.false_eq_true, Bool.true_eq_false, false_implies, true_and, and_true, bne_self_eq_false, beq_self_eq_true, Int.reduceBEq, Int.reduceBNe, Int.reduceLT, Int.reduceLE, Int.reduceEq, Int.reduceToNat, Int.toNat_natCast, beq_iff_eq, bne_iff_ne, beq_eq_false_iff_ne, bne_eq_false_iff_eq, Decidable.not_not, ↓reduceIte, if_true, if_false, List.map_cons, List.map_nil, List.reduceReplicate, List.nil_append, List.cons_append, List.append_nil, List.length_cons, List.length_nil, Nat.reduceAdd, Nat.reduceSub, Nat.reduceMul, Nat.reduceLT, Nat.reduceLeDiff, Nat.reduceBEq, Nat.reduceEqDiff, decide_true, decide_false, decide_eq_true_eq, decide_eq_false_iff_not, Bool.and_true, Bool.true_and, Bool.and_false, Bool.false_and, Bool.or_true, Bool.true_or, Bool.or_false, Bool.false_or, Bool.not_true, Bool.not_false, sxc, List.getElem?_cons_zero, List.getElem?_cons_succ, List.drop_zero, List.drop_succ_cons, List.take_zero, List.take_succ_cons, List.zip_cons_cons, List.zip_nil_right, List.toList_toArray, Nat.zero_add, Option.map_some, Option.map_none, Option.isSome_some, true_and, and_true, forall_const, ne_eq, not_false_eq_true, not_true_eq_false, true_implies, implies_true]
  refine ⟨_, [], by rw [List.append_nil], ⟨.nil, fun r' hr => ?_, fun r' hr _ => trivial⟩, .inl rfl⟩
  cases hr with
  | nil => exact Nat.le_refl _
  | cons hb _ => simp at hb

theorem best_succ {us : List Tw} (hok : okT us) (k : Nat) (ih : BestOk us k) : BestOk us (k + 1) := by
  intro w s o p S hs ho hpre hk
  obtain ⟨hS, hSn, hcnt, hmem, hord, hlt⟩ := pre_all hok hpre
  have hS0 : S ≠ 0 := fun h => by have := (cnt_facts ⟨S, hS⟩).1.2 h; simp only [] at this; omega
  obtain ⟨a, n, c, rfl⟩ := hs.shape
  obtain ⟨a', n', c', rfl⟩ := ho.shape
  have hn := hs.le (f := twc) twc_len (by omega)
  have hn' := ho.le i1_len (by omega)
  rw [List.length_map] at hn'
  have h8 := hok.2.1
  have hD := detG_ok (X := fun _ => False) hs (fun _ _ => id)
  have dn : (∀ xs, detG (.slice a n c) us 61 xs = none) ∧ (∀ xs, detG (.slice a n c) us 56 xs = none) := ⟨fun _ => rfl, fun _ => rfl⟩
  refine walk [] [(9, (ones [2, 4] (.alt 0 (.alt 1 (.alt 3 (ones [5, 6, 7, 8, 9, 10, 11, 12] .fin) (.alt 5 (ones [3, 6, 7, 8, 9, 10, 11, 12] .fin) .no)) (.alt 5 (ones [1, 3, 6, 7, 8, 9, 10, 11, 12] .fin) .no)) (.alt 1 (.alt 0 (.alt 3 (ones [5, 6, 7, 8, 9, 10, 11, 12] .fin) (.alt 5 (ones [3, 6, 7, 8, 9, 10, 11, 12] .fin) .no)) (.alt 3 (.alt 0 (ones [5, 6, 7, 8, 9, 10, 11, 12] .fin) (.alt 5 (.alt 0 (ones [6, 7, 8, 9, 10, 11, 12] .fin) (.alt 6 (ones [0, 7, 8, 9, 10, 11, 12] .fin) .no)) .no)) (.alt 5 (.alt 0 (ones [3, 6, 7, 8, 9, 10, 11, 12] .fin) (.alt 3 (.alt 0 (ones [6, 7, 8, 9, 10, 11, 12] .fin) (.alt 6 (ones [0, 7, 8, 9, 10, 11, 12] .fin) .no)) .no)) .no))) (.alt 5 (.alt 0 (ones [1, 3, 6, 7, 8, 9, 10, 11, 12] .fin) (.alt 1 (.alt 0 (ones [3, 6, 7, 8, 9, 10, 11, 12] .fin) (.alt 3 (.alt 0 (ones [6, 7, 8, 9, 10, 11, 12] .fin) (.alt 6 (ones [0, 7, 8, 9, 10, 11, 12] .fin) .no)) .no)) .no)) .no)))))] hD Try.func56 rfl Try.ntmps56 res56 (by kernel_rfl) no_facts ?_
  have e1 : ((n' : Int) = (n : Int)) = False := eq_false (by omega)
  simp (config := { maxSteps := 4000000 }) only [↓sx0, ↓sx1, ↓sx2, ↓sx3, ↓sx4, ↓sx5, ↓sx6, sx0, sx1, sx2, sx3, sx4, sx5, sx6, tf56, ev3_hold, sxo, List.all_cons, List.all_nil, Bool.not_eq_true', Bool.not_eq_false', and_self, Bool.false_eq_true, Bool.true_eq_false, false_implies, true_and, and_true, bne_self_eq_false, beq_self_eq_true, Int.reduceBEq, Int.reduceBNe, Int.reduceLT, Int.reduceLE, Int.reduceEq, Int.reduceToNat, Int.toNat_natCast, beq_iff_eq, bne_iff_ne, beq_eq_false_iff_ne, bne_eq_false_iff_eq, Decidable.not_not, ↓reduceIte, if_true, if_false, List.map_cons, List.map_nil, List.reduceReplicate, List.nil_append, List.cons_append, List.append_nil, List.length_cons, List.length_nil, Nat.reduceAdd, Nat.reduceSub, Nat.reduceMul, Nat.reduceLT, Nat.reduceLeDiff, Nat.reduceBEq, Nat.reduceEqDiff, decide_true, decide_false, decide_eq_true_eq, decide_eq_false_iff_not, Bool.and_true, Bool.true_and, Bool.and_false, Bool.false_and, Bool.or_true, Bool.true_or, Bool.or_false, Bool.false_or, Bool.not_true, Bool.not_false, sxc, List.getElem?_cons_zero, List.getElem?_cons_succ, List.drop_zero, List.drop_succ_cons, List.take_zero, List.take_succ_cons, List.zip_cons_cons, List.zip_nil_right, List.toList_toArray, Nat.zero_add, Option.map_some, Option.map_none, Option.isSome_some, true_and, and_true, forall_const, ne_eq, not_false_eq_true, not_true_eq_false, true_implies, implies_true, e1, dn]
  refine loop_const [(6, 10), (21, 46)] (fun q : Nat × Value × Option (List Nat) => [(6, q.2.1), (7, I (match q.2.2 with | none => -1 | some r => (fv us (p ++ r) : Int))), (8, I q.1)])
    (fun q H1 => q.1 ≤ n ∧ bestK us p S q.1 q.2.2 ∧ (match q.2.2 with | none => q.2.1 = .slice none 0 0 | some r => Got q.2.1 3 1 i1 (nts (p ++ r)) H1)) (fun q => n - q.1) (0, .slice none 0 0, none) ?_ ⟨Nat.zero_le _, fun i h => by simp at h, rfl⟩ ?_
  · simp (config := { maxSteps := 4000000 }) only [↓sx0, ↓sx1, ↓sx2, ↓sx3, ↓sx4, ↓sx5, ↓sx6, sx0, sx1, sx2, sx3, sx4, sx5, sx6, tf56, ev3_hold, sxo, List.all_cons, List.all_nil, Bool.not_eq_true', Bool.not_eq_false', and_self, Bool.false_eq_true, Bool.true_eq_false, false_implies, true_and, and_true, bne_self_eq_false, beq_self_eq_true, Int.reduceBEq, Int.reduceBNe, Int.reduceLT, Int.reduceLE, Int.reduceEq, Int.reduceToNat, Int.toNat_natCast, beq_iff_eq, bne_iff_ne, beq_eq_false_iff_ne, bne_eq_false_iff_eq, Decidable.not_not, ↓reduceIte, if_true, if_false, List.map_cons, List.map_nil, List.reduceReplicate, List.nil_append, List.cons_append, List.append_nil, List.length_cons, List.length_nil, Nat.reduceAdd, Nat.reduceSub, Nat.reduceMul, Nat.reduceLT, Nat.reduceLeDiff, Nat.reduceBEq, Nat.reduceEqDiff, decide_true, decide_false, decide_eq_true_eq, decide_eq_false_iff_not, Bool.and_true, Bool.true_and, Bool.and_false, Bool.false_and, Bool.or_true, Bool.true_or, Bool.or_false, Bool.false_or, Bool.not_true, Bool.not_false, sxc, List.getElem?_cons_zero, List.getElem?_cons_succ, List.drop_zero, List.drop_succ_cons, List.take_zero, List.take_succ_cons, List.zip_cons_cons, List.zip_nil_right, List.toList_toArray, Nat.zero_add, Option.map_some, Option.map_none, Option.isSome_some, true_and, and_true, forall_const, ne_eq, not_false_eq_true, not_true_eq_false, true_implies, implies_true]
    simp
  · rintro ⟨i, x, st⟩ H1 g hinv
    simp only [] at hinv
    obtain ⟨hi, hbk, hst⟩ := hinv
    by_cases hin : i = n
    · subst hin
      have e7 : ((i : Int) < (i : Int)) = False := eq_false (by omega)
      obtain ⟨r, rfl, hb⟩ := bestK_end hbk hS0 hS (fun j hb => by have := (hmem j (bit8 hS hb)).1 hb; omega) (by omega) (by rw [← hn]; exact hSn)
      simp (config := { maxSteps := 4000000 }) only [↓sx0, ↓sx1, ↓sx2, ↓sx3, ↓sx4, ↓sx5, ↓sx6, sx0, sx1, sx2, sx3, sx4, sx5, sx6, tf56, ev3_hold, sxo, List.all_cons, List.all_nil, Bool.not_eq_true', Bool.not_eq_false', and_self, Bool.false_eq_true, Bool.true_eq_false, false_implies, true_and, and_true, bne_self_eq_false, beq_self_eq_true, Int.reduceBEq, Int.reduceBNe, Int.reduceLT, Int.reduceLE, Int.reduceEq, Int.reduceToNat, Int.toNat_natCast, beq_iff_eq, bne_iff_ne, beq_eq_false_iff_ne, bne_eq_false_iff_eq, Decidable.not_not, ↓reduceIte, if_true, if_false, List.map_cons, List.map_nil, List.reduceReplicate, List.nil_append, List.cons_append, List.append_nil, List.length_cons, List.length_nil, Nat.reduceAdd, Nat.reduceSub, Nat.reduceMul, Nat.reduceLT, Nat.reduceLeDiff, Nat.reduceBEq, Nat.reduceEqDiff, decide_true, decide_false, decide_eq_true_eq, decide_eq_false_iff_not, Bool.and_true, Bool.true_and, Bool.and_false, Bool.false_and, Bool.or_true, Bool.true_or, Bool.or_false, Bool.false_or, Bool.not_true, Bool.not_false, sxc, List.getElem?_cons_zero, List.getElem?_cons_succ, List.drop_zero, List.drop_succ_cons, List.take_zero, List.take_succ_cons, List.zip_cons_cons, List.zip_nil_right, List.toList_toArray, Nat.zero_add, Option.map_some, Option.map_none, Option.isSome_some, true_and, and_true, forall_const, ne_eq, not_false_eq_true, not_true_eq_false, true_implies, implies_true, e7]
      exact ⟨_, r, rfl, hb, .inr hst⟩
    · have e7 : ((i : Int) < (n : Int)) = True := eq_true (by omega)
      have e8 : wr ((i : Int) + 1) = ((i + 1 : Nat) : Int) := (wrap_id (by omega)).trans (by omega)
      simp (config := { maxSteps := 4000000 }) only [↓sx0, ↓sx1, ↓sx2, ↓sx3, ↓sx4, ↓sx5, ↓sx6, sx0, sx1, sx2, sx3, sx4, sx5, sx6, tf56, ev3_hold, sxo, List.all_cons, List.all_nil, Bool.not_eq_true', Bool.not_eq_false', and_self, Bool.false_eq_true, Bool.true_eq_false, false_implies, true_and, and_true, bne_self_eq_false, beq_self_eq_true, Int.reduceBEq, Int.reduceBNe, Int.reduceLT, Int.reduceLE, Int.reduceEq, Int.reduceToNat, Int.toNat_natCast, beq_iff_eq, bne_iff_ne, beq_eq_false_iff_ne, bne_eq_false_iff_eq, Decidable.not_not, ↓reduceIte, if_true, if_false, List.map_cons, List.map_nil, List.reduceReplicate, List.nil_append, List.cons_append, List.append_nil, List.length_cons, List.length_nil, Nat.reduceAdd, Nat.reduceSub, Nat.reduceMul, Nat.reduceLT, Nat.reduceLeDiff, Nat.reduceBEq, Nat.reduceEqDiff, decide_true, decide_false, decide_eq_true_eq, decide_eq_false_iff_not, Bool.and_true, Bool.true_and, Bool.and_false, Bool.false_and, Bool.or_true, Bool.true_or, Bool.or_false, Bool.false_or, Bool.not_true, Bool.not_false, sxc, List.getElem?_cons_zero, List.getElem?_cons_succ, List.drop_zero, List.drop_succ_cons, List.take_zero, List.take_succ_cons, List.zip_cons_cons, List.zip_nil_right, List.toList_toArray, Nat.zero_add, Option.map_some, Option.map_none, Option.isSome_some, true_and, and_true, forall_const, ne_eq, not_false_eq_true, not_true_eq_false, true_implies, implies_true, e7, dn]
      refine CallOb.pure (fun w' hp' => has2_fn w' _ (nts p) i (ho.hp (fun _ _ => id) hp') (by simp; omega)) ?_
      rintro r N rfl
      have hmi : ((i : Int) ∈ nts p) ↔ i ∈ p := by
        rw [List.mem_map]
        exact ⟨fun ⟨a, h1, h2⟩ => by rwa [show i = a by omega], fun h => ⟨i, h, rfl⟩⟩
      by_cases hip : i ∈ p
      · have hd : decide ((i : Int) ∈ nts p) = true := decide_eq_true (hmi.2 hip)
        have hb : S.testBit i = false := by
          cases hc : S.testBit i with
          | false => rfl
          | true => exact absurd hip ((hmem i (by omega)).1 hc).2
        simp (config := { maxSteps := 4000000 }) only [↓sx0, ↓sx1, ↓sx2, ↓sx3, ↓sx4, ↓sx5, ↓sx6, sx0, sx1, sx2, sx3, sx4, sx5, sx6, tf56, ev3_hold, sxo, List.all_cons, List.all_nil, Bool.not_eq_true', Bool.not_eq_false', and_self, Bool.false_eq_true, Bool.true_eq_false, false_implies, true_and, and_true, bne_self_eq_false, beq_self_eq_true, Int.reduceBEq, Int.reduceBNe, Int.reduceLT, Int.reduceLE, Int.reduceEq, Int.reduceToNat, Int.toNat_natCast, beq_iff_eq, bne_iff_ne, beq_eq_false_iff_ne, bne_eq_false_iff_eq, Decidable.not_not, ↓reduceIte, if_true, if_false, List.map_cons, List.map_nil, List.reduceReplicate, List.nil_append, List.cons_append, List.append_nil, List.length_cons, List.length_nil, Nat.reduceAdd, Nat.reduceSub, Nat.reduceMul, Nat.reduceLT, Nat.reduceLeDiff, Nat.reduceBEq, Nat.reduceEqDiff, decide_true, decide_false, decide_eq_true_eq, decide_eq_false_iff_not, Bool.and_true, Bool.true_and, Bool.and_false, Bool.false_and, Bool.or_true, Bool.true_or, Bool.or_false, Bool.false_or, Bool.not_true, Bool.not_false, sxc, List.getElem?_cons_zero, List.getElem?_cons_succ, List.drop_zero, List.drop_succ_cons, List.take_zero, List.take_succ_cons, List.zip_cons_cons, List.zip_nil_right, List.toList_toArray, Nat.zero_add, Option.map_some, Option.map_none, Option.isSome_some, true_and, and_true, forall_const, ne_eq, not_false_eq_true, not_true_eq_false, true_implies, implies_true, e8, hd]
        refine ⟨(i + 1, x, st), H1, ⟨rfl, rfl, rfl⟩, HImp.app _ _ _, ⟨by simp only []; omega, bestK_skip hbk hb, hst⟩, by simp only []; omega⟩
      · have hd : decide ((i : Int) ∈ nts p) = false := decide_eq_false fun h => hip (hmi.1 h)
        have hb : S.testBit i = true := (hmem i (by omega)).2 ⟨by omega, hip⟩
        have hln : (nts p).length = n' := by rw [List.length_map, hn']
        have hpr : Pre (2 ^ us.length - 1) (p ++ [i]) (S - 2 ^ i) := .snoc hpre hb
        have hcnt' : cnt (S - 2 ^ i) = k := by
          have h5 : cnt S = cnt (S - 2 ^ i) + 1 := (cnt_facts ⟨S, hS⟩).2 ⟨i, by omega⟩ hb
          omega
        simp (config := { maxSteps := 4000000 }) only [↓sx0, ↓sx1, ↓sx2, ↓sx3, ↓sx4, ↓sx5, ↓sx6, sx0, sx1, sx2, sx3, sx4, sx5, sx6, tf56, ev3_hold, sxo, List.all_cons, List.all_nil, Bool.not_eq_true', Bool.not_eq_false', and_self, Bool.false_eq_true, Bool.true_eq_false, false_implies, true_and, and_true, bne_self_eq_false, beq_self_eq_true, Int.reduceBEq, Int.reduceBNe, Int.reduceLT, Int.reduceLE, Int.reduceEq, Int.reduceToNat, Int.toNat_natCast, beq_iff_eq, bne_iff_ne, beq_eq_false_iff_ne, bne_eq_false_iff_eq, Decidable.not_not, ↓reduceIte, if_true, if_false, List.map_cons, List.map_nil, List.reduceReplicate, List.nil_append, List.cons_append, List.append_nil, List.length_cons, List.length_nil, Nat.reduceAdd, Nat.reduceSub, Nat.reduceMul, Nat.reduceLT, Nat.reduceLeDiff, Nat.reduceBEq, Nat.reduceEqDiff, decide_true, decide_false, decide_eq_true_eq, decide_eq_false_iff_not, Bool.and_true, Bool.true_and, Bool.and_false, Bool.false_and, Bool.or_true, Bool.true_or, Bool.or_false, Bool.false_or, Bool.not_true, Bool.not_false, sxc, List.getElem?_cons_zero, List.getElem?_cons_succ, List.drop_zero, List.drop_succ_cons, List.take_zero, List.take_succ_cons, List.zip_cons_cons, List.zip_nil_right, List.toList_toArray, Nat.zero_add, Option.map_some, Option.map_none, Option.isSome_some, true_and, and_true, forall_const, ne_eq, not_false_eq_true, not_true_eq_false, true_implies, implies_true, hd]
        repeat' (first | apply And.intro | intro b)
        all_goals (first
          | refine app_at (l := []) (m := nts p) (HImp.refl _ _) i1_len i1_one (fun w' hp' => ho.hp (fun _ _ => id) hp') (by simp; omega) fun ad3 c3 h3 => ?_
          | refine app_at (l := []) (m := nts p) (HImp.swap _ _ _ _) i1_len i1_one (fun w' hp' => ho.hp (fun _ _ => id) hp') (by simp; omega) fun ad3 c3 h3 => ?_)
        all_goals rw [hln, List.nil_append]
        all_goals simp (config := { maxSteps := 4000000 }) only [↓sx0, ↓sx1, ↓sx2, ↓sx3, ↓sx4, ↓sx5, ↓sx6, sx0, sx1, sx2, sx3, sx4, sx5, sx6, tf56, ev3_hold, sxo, List.all_cons, List.all_nil, Bool.not_eq_true', Bool.not_eq_false', and_self, Bool.false_eq_true, Bool.true_eq_false, false_implies, true_and, and_true, bne_self_eq_false, beq_self_eq_true, Int.reduceBEq, Int.reduceBNe, Int.reduceLT, Int.reduceLE, Int.reduceEq, Int.reduceToNat, Int.toNat_natCast, beq_iff_eq, bne_iff_ne, beq_eq_false_iff_ne, bne_eq_false_iff_eq, Decidable.not_not, ↓reduceIte, if_true, if_false, List.map_cons, List.map_nil, List.reduceReplicate, List.nil_append, List.cons_append, List.append_nil, List.length_cons, List.length_nil, Nat.reduceAdd, Nat.reduceSub, Nat.reduceMul, Nat.reduceLT, Nat.reduceLeDiff, Nat.reduceBEq, Nat.reduceEqDiff, decide_true, decide_false, decide_eq_true_eq, decide_eq_false_iff_not, Bool.and_true, Bool.true_and, Bool.and_false, Bool.false_and, Bool.or_true, Bool.true_or, Bool.or_false, Bool.false_or, Bool.not_true, Bool.not_false, sxc, List.getElem?_cons_zero, List.getElem?_cons_succ, List.drop_zero, List.drop_succ_cons, List.take_zero, List.take_succ_cons, List.zip_cons_cons, List.zip_nil_right, List.toList_toArray, Nat.zero_add, Option.map_some, Option.map_none, Option.isSome_some, true_and, and_true, forall_const, ne_eq, not_false_eq_true, not_true_eq_false, true_implies, implies_true]
        repeat' (first | apply And.intro | intro b6)
        all_goals refine app_at (l := nts p) (m := [(i : Int)]) (A := N ++ H1) (HImp.pick2 (by first | exact List.sublist_cons_self _ _ | exact List.Sublist.cons_cons _ (List.sublist_cons_self _ _))) i1_len i1_one (fun w' hp' => row_hp (E := 3) (by simp [cat_one, i1]) hp') (by simp; omega) fun ad4 c4 h4 => ?_
        all_goals rw [hln, show nts p ++ [(i : Int)] = nts (p ++ [i]) by simp]
        all_goals simp (config := { maxSteps := 4000000 }) only [↓sx0, ↓sx1, ↓sx2, ↓sx3, ↓sx4, ↓sx5, ↓sx6, sx0, sx1, sx2, sx3, sx4, sx5, sx6, tf56, ev3_hold, sxo, List.all_cons, List.all_nil, Bool.not_eq_true', Bool.not_eq_false', and_self, Bool.false_eq_true, Bool.true_eq_false, false_implies, true_and, and_true, bne_self_eq_false, beq_self_eq_true, Int.reduceBEq, Int.reduceBNe, Int.reduceLT, Int.reduceLE, Int.reduceEq, Int.reduceToNat, Int.toNat_natCast, beq_iff_eq, bne_iff_ne, beq_eq_false_iff_ne, bne_eq_false_iff_eq, Decidable.not_not, ↓reduceIte, if_true, if_false, List.map_cons, List.map_nil, List.reduceReplicate, List.nil_append, List.cons_append, List.append_nil, List.length_cons, List.length_nil, Nat.reduceAdd, Nat.reduceSub, Nat.reduceMul, Nat.reduceLT, Nat.reduceLeDiff, Nat.reduceBEq, Nat.reduceEqDiff, decide_true, decide_false, decide_eq_true_eq, decide_eq_false_iff_not, Bool.and_true, Bool.true_and, Bool.and_false, Bool.false_and, Bool.or_true, Bool.true_or, Bool.or_false, Bool.false_or, Bool.not_true, Bool.not_false, sxc, List.getElem?_cons_zero, List.getElem?_cons_succ, List.drop_zero, List.drop_succ_cons, List.take_zero, List.take_succ_cons, List.zip_cons_cons, List.zip_nil_right, List.toList_toArray, Nat.zero_add, Option.map_some, Option.map_none, Option.isSome_some, true_and, and_true, forall_const, ne_eq, not_false_eq_true, not_true_eq_false, true_implies, implies_true, dn]
        all_goals
          refine CallOb.pure (fun w' hp' => ih w' _ _ (p ++ [i]) (S - 2 ^ i) (hs.hp (fun _ _ => id) hp') (row_hp (E := 3) List.mem_cons_self hp') hpr hcnt') ?_
          rintro r N2 ⟨x2, q, rfl, hbp, hx⟩
          have hst2 := bestK_step hbk hb hbp
          rw [List.append_assoc, List.singleton_append] at hx ⊢
          have hgot : Got x2 3 1 i1 (nts (p ++ i :: q)) (N2 ++ HO.row (.slice ad4 (n' + 1) c4) 3 1 (cat i1 (nts (p ++ [i]))) :: (N ++ H1)) := by
            rcases hx with ⟨h0, rfl⟩ | hx
            · have hq : q = [] := by
                have := hbp.1
                rw [h0] at this
                cases this with
                | nil => rfl
                | cons hb' _ => simp at hb'
              subst hq
              exact Got.row (by simp; omega) (by simp) (fun h => by have := (h4 h).2; cases this)
            · exact Got.mono hx fun h hh => List.mem_append_left _ hh
          simp (config := { maxSteps := 4000000 }) only [↓sx0, ↓sx1, ↓sx2, ↓sx3, ↓sx4, ↓sx5, ↓sx6, sx0, sx1, sx2, sx3, sx4, sx5, sx6, tf56, ev3_hold, sxo, List.all_cons, List.all_nil, Bool.not_eq_true', Bool.not_eq_false', and_self, Bool.false_eq_true, Bool.true_eq_false, false_implies, true_and, and_true, bne_self_eq_false, beq_self_eq_true, Int.reduceBEq, Int.reduceBNe, Int.reduceLT, Int.reduceLE, Int.reduceEq, Int.reduceToNat, Int.toNat_natCast, beq_iff_eq, bne_iff_ne, beq_eq_false_iff_ne, bne_eq_false_iff_eq, Decidable.not_not, ↓reduceIte, if_true, if_false, List.map_cons, List.map_nil, List.reduceReplicate, List.nil_append, List.cons_append, List.append_nil, List.length_cons, List.length_nil, Nat.reduceAdd, Nat.reduceSub, Nat.reduceMul, Nat.reduceLT, Nat.reduceLeDiff, Nat.reduceBEq, Nat.reduceEqDiff, decide_true, decide_false, decide_eq_true_eq, decide_eq_false_iff_not, Bool.and_true, Bool.true_and, Bool.and_false, Bool.false_and, Bool.or_true, Bool.true_or, Bool.or_false, Bool.false_or, Bool.not_true, Bool.not_false, sxc, List.getElem?_cons_zero, List.getElem?_cons_succ, List.drop_zero, List.drop_succ_cons, List.take_zero, List.take_succ_cons, List.zip_cons_cons, List.zip_nil_right, List.toList_toArray, Nat.zero_add, Option.map_some, Option.map_none, Option.isSome_some, true_and, and_true, forall_const, ne_eq, not_false_eq_true, not_true_eq_false, true_implies, implies_true, e8]
          have hsub : H1.Sublist (N2 ++ HO.row (.slice ad4 (n' + 1) c4) 3 1 (cat i1 (nts (p ++ [i]))) :: (N ++ H1)) := ((List.sublist_append_right N H1).trans (List.sublist_cons_self _ _)).trans (List.sublist_append_right _ _)
          refine ⟨fun hc => ⟨(i + 1, x2, some (i :: q)), _, ⟨rfl, rfl, rfl⟩, HImp.refl _ _, ⟨by simp only []; omega, hst2.1 ?_, hgot⟩, by simp only []; omega⟩, fun hc => ⟨(i + 1, x, st), _, ⟨rfl, rfl, rfl⟩, HImp.pick2 hsub, ⟨by simp only []; omega, hst2.2 ?_, hst⟩, by simp only []; omega⟩⟩
          · cases st with
            | none => trivial
            | some y => simp only [] at hc ⊢; omega
          · cases st with
            | none => simp only [] at hc ⊢; omega
            | some y => simp only [] at hc ⊢; omega

theorem best_fn {us : List Tw} (hok : okT us) : ∀ k, BestOk us k
  | 0 => best_zero hok
  | k + 1 => best_succ hok k (best_fn hok k)

theorem rorder_fn (w : World) (s : Value) (us : List Tw) (hs : Sl w s 5 (twcs us)) (hok : okT us) :
    SX.Fn Try.prog 30 [.agg #[s]] w (fun _ => False) fun r N => ∃ x l, r = .tuple #[x, I 0] ∧ Got x 3 1 i1 (nts l) N ∧ isBest us (2 ^ us.length - 1) l := by
  obtain ⟨a, n, c, rfl⟩ := hs.shape
  have hn := hs.le (f := twc) twc_len (by omega)
  have h8 := hok.2.1
  have h1 := hok.1
  have ht := (train_iff us).2 hok
  have hp1 : 2 ≤ 2 ^ us.length ∧ 2 ^ us.length ≤ 256 := ⟨by have := Nat.pow_le_pow_right (n := 2) (by omega) h1; exact this, by have := Nat.pow_le_pow_right (n := 2) (by omega) h8; exact this⟩
  have hD := detG_ok (X := fun _ => False) hs (fun _ _ => id)
  have dn : (∀ xs, detG (.slice a n c) us 56 xs = none) := fun _ => rfl
  refine walk [] [] hD Try.func30 rfl Try.ntmps30 res30 (by kernel_rfl) no_facts ?_
  simp (config := { maxSteps := 4000000 }) only [↓sx0, ↓sx1, ↓sx2, ↓sx3, ↓sx4, ↓sx5, ↓sx6, sx0, sx1, sx2, sx3, sx4, sx5, sx6, tf30, ev3_hold, sxo, List.all_cons, List.all_nil, Bool.not_eq_true', Bool.not_eq_false', and_self, Bool.false_eq_true, Bool.true_eq_false, false_implies, true_and, and_true, bne_self_eq_false, beq_self_eq_true, Int.reduceBEq, Int.reduceBNe, Int.reduceLT, Int.reduceLE, Int.reduceEq, Int.reduceToNat, Int.toNat_natCast, beq_iff_eq, bne_iff_ne, beq_eq_false_iff_ne, bne_eq_false_iff_eq, Decidable.not_not, ↓reduceIte, if_true, if_false, List.map_cons, List.map_nil, List.reduceReplicate, List.nil_append, List.cons_append, List.append_nil, List.length_cons, List.length_nil, Nat.reduceAdd, Nat.reduceSub, Nat.reduceMul, Nat.reduceLT, Nat.reduceLeDiff, Nat.reduceBEq, Nat.reduceEqDiff, decide_true, decide_false, decide_eq_true_eq, decide_eq_false_iff_not, Bool.and_true, Bool.true_and, Bool.and_false, Bool.false_and, Bool.or_true, Bool.true_or, Bool.or_false, Bool.false_or, Bool.not_true, Bool.not_false, sxc, List.getElem?_cons_zero, List.getElem?_cons_succ, List.drop_zero, List.drop_succ_cons, List.take_zero, List.take_succ_cons, List.zip_cons_cons, List.zip_nil_right, List.toList_toArray, Nat.zero_add, Option.map_some, Option.map_none, Option.isSome_some, true_and, and_true, forall_const, ne_eq, not_false_eq_true, not_true_eq_false, true_implies, implies_true, detG_eq, ht, dn]
  refine CallOb.pure (fun w' hp' => best_fn hok (cnt (2 ^ us.length - 1)) w' _ _ [] _ (hs.hp (fun _ _ => id) hp') (Sl.nil _ _) .nil rfl) ?_
  rintro r N ⟨x, q, rfl, hb, hx⟩
  simp (config := { maxSteps := 4000000 }) only [↓sx0, ↓sx1, ↓sx2, ↓sx3, ↓sx4, ↓sx5, ↓sx6, sx0, sx1, sx2, sx3, sx4, sx5, sx6, tf30, ev3_hold, sxo, List.all_cons, List.all_nil, Bool.not_eq_true', Bool.not_eq_false', and_self, Bool.false_eq_true, Bool.true_eq_false, false_implies, true_and, and_true, bne_self_eq_false, beq_self_eq_true, Int.reduceBEq, Int.reduceBNe, Int.reduceLT, Int.reduceLE, Int.reduceEq, Int.reduceToNat, Int.toNat_natCast, beq_iff_eq, bne_iff_ne, beq_eq_false_iff_ne, bne_eq_false_iff_eq, Decidable.not_not, ↓reduceIte, if_true, if_false, List.map_cons, List.map_nil, List.reduceReplicate, List.nil_append, List.cons_append, List.append_nil, List.length_cons, List.length_nil, Nat.reduceAdd, Nat.reduceSub, Nat.reduceMul, Nat.reduceLT, Nat.reduceLeDiff, Nat.reduceBEq, Nat.reduceEqDiff, decide_true, decide_false, decide_eq_true_eq, decide_eq_false_iff_not, Bool.and_true, Bool.true_and, Bool.and_false, Bool.false_and, Bool.or_true, Bool.true_or, Bool.or_false, Bool.false_or, Bool.not_true, Bool.not_false, sxc, List.getElem?_cons_zero, List.getElem?_cons_succ, List.drop_zero, List.drop_succ_cons, List.take_zero, List.take_succ_cons, List.zip_cons_cons, List.zip_nil_right, List.toList_toArray, Nat.zero_add, Option.map_some, Option.map_none, Option.isSome_some, true_and, and_true, forall_const, ne_eq, not_false_eq_true, not_true_eq_false, true_implies, implies_true]
  refine ⟨x, q, rfl, ?_, hb⟩
  rcases hx with ⟨h0, _⟩ | hx
  · omega
  · simpa using hx

end Go.Proofs.Ytpfbpelkodlljaa
