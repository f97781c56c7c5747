/- A part of a proof: the symbolic walk and what it shows of single functions. -/
import Derived.Test.YtpfbpelkodlljaaSxV13
set_option linter.all false
namespace Go.Proofs.Ytpfbpelkodlljaa
open Go.RowKit Go.SX
set_option maxRecDepth 4000
set_option maxHeartbeats 8000000
set_option linter.unusedSimpArgs false
set_option linter.unusedVariables false

/-! ### Lines that part -/

/-- The greatest speed (up to 20) with which a line holds. -/
def spd (u : Tw) (h : Int) : Nat := spdGo u.str h 20

theorem spdGo_iff {str h : Int} (hs : 0 ≤ str ∧ str ≤ 1000000) (hh : 0 ≤ h ∧ h ≤ 800) : ∀ (n : Nat), n ≤ 20 → spdGo str h n ≤ n ∧ ∀ v : Nat, 1 ≤ v → v ≤ n → (v ≤ spdGo str h n ↔ (v : Int) * v * h ≤ str)
  | 0, _ => ⟨Nat.le_refl _, fun v h1 h2 => by omega⟩
  | n + 1, hn => by
    obtain ⟨ih1, ih2⟩ := spdGo_iff hs hh n (by omega)
    have hv : 1 ≤ ((n + 1 : Nat) : Int) ∧ ((n + 1 : Nat) : Int) ≤ 20 := by omega
    have h2 := vv_bd hv
    have h3 := mul_bd0 (show 0 ≤ ((n + 1 : Nat) : Int) * ((n + 1 : Nat) : Int) by omega) h2.2 hh.1 hh.2
    have e1 : wr (((n + 1 : Nat) : Int) * ((n + 1 : Nat) : Int)) = ((n + 1 : Nat) : Int) * ((n + 1 : Nat) : Int) := wrap_id (by omega)
    have e2 : wr (((n + 1 : Nat) : Int) * ((n + 1 : Nat) : Int) * h) = ((n + 1 : Nat) : Int) * ((n + 1 : Nat) : Int) * h := wrap_id (by omega)
    rw [spdGo, e1, e2]
    by_cases hc : ((n + 1 : Nat) : Int) * ((n + 1 : Nat) : Int) * h > str
    · rw [if_pos hc]
      refine ⟨by omega, fun v h1 hle => ?_⟩
      by_cases he : v = n + 1
      · subst he
        constructor
        · intro h'
          omega
        · intro h'
          omega
      · exact ih2 v h1 (by omega)
    · rw [if_neg hc]
      refine ⟨Nat.le_refl _, fun v h1 hle => ⟨fun _ => ?_, fun _ => hle⟩⟩
      have a1 := mul_bd0 (show 0 ≤ (v : Int) by omega) (show (v : Int) ≤ ((n + 1 : Nat) : Int) by omega) (show 0 ≤ (v : Int) by omega) (show (v : Int) ≤ ((n + 1 : Nat) : Int) by omega)
      have a2 := Int.mul_le_mul_of_nonneg_right a1.2 hh.1
      omega

theorem spd_iff {u : Tw} (hu : u.ok) {h : Int} (hh : 0 ≤ h ∧ h ≤ 800) {v : Nat} (h1 : 1 ≤ v) (h2 : v ≤ 20) : v ≤ spd u h ↔ (v : Int) * v * h ≤ u.str := by
  unfold Tw.ok at hu
  exact (spdGo_iff (by omega) hh 20 (Nat.le_refl _)).2 v h1 h2

theorem spd_le {u : Tw} (hu : u.ok) {h : Int} (hh : 0 ≤ h ∧ h ≤ 800) : spd u h ≤ 20 := by
  unfold Tw.ok at hu
  exact (spdGo_iff (by omega) hh 20 (Nat.le_refl _)).1

/-- The greatest speeds of the lines, from some line on. -/
def spdAt (us : List Tw) (i : Nat) : Nat := match us[i]? with
  | some u => spd u (hiS us i)
  | none => 20

/-- The first line from k on that parts with a speed; -1: none. -/
def partsGo (us : List Tw) (v : Nat) : Nat → Nat → Int
  | 0, _ => -1
  | n + 1, k => if spdAt us k < v then k else partsGo us v n (k + 1)

def partsR (us : List Tw) (v : Nat) : Int := partsGo us v us.length 0

theorem parts_fn (w : World) (s : Value) (us : List Tw) (v : Nat) (hs : Sl w s 5 (twcs us)) (hok : okT us) (hv : 1 ≤ v ∧ v ≤ 20) :
    SX.Fn Try.prog 54 [.agg #[s], I v] w (fun _ => False) fun r N => r = I (partsR us v) := by
  obtain ⟨a, n, c, rfl⟩ := hs.shape
  have hn := hs.le (f := twc) twc_len (by omega)
  have hr := hs.rd0
  have h8 := hok.2.1
  have hD := detG_ok (X := fun _ => False) hs (fun _ _ => id)
  have dn : (∀ xs, detG (.slice a n c) us 47 xs = none) ∧ (∀ xs, detG (.slice a n c) us 45 xs = none) := ⟨fun _ => rfl, fun _ => rfl⟩
  refine walk [] [(4, (ones [0, 1, 2, 3, 4, 5, 6, 8, 9, 7, 10, 11, 12] .fin))] hD Try.func54 rfl Try.ntmps54 res54 (by kernel_rfl) no_facts ?_
  simp (config := { maxSteps := 4000000 }) only [↓sx0, ↓sx1, ↓sx2, ↓sx3, ↓sx4, ↓sx5, ↓sx6, sx0, sx1, sx2, sx3, sx4, sx5, sx6, tf54, ev3_hold, sxo, List.all_cons, List.all_nil, Bool.not_eq_true', Bool.not_eq_false', and_self, Bool.false_eq_true, Bool.true_eq_false, false_implies, true_and, and_true, bne_self_eq_false, beq_self_eq_true, Int.reduceBEq, Int.reduceBNe, Int.reduceLT, Int.reduceLE, Int.reduceEq, Int.reduceToNat, Int.toNat_natCast, beq_iff_eq, bne_iff_ne, beq_eq_false_iff_ne, bne_eq_false_iff_eq, Decidable.not_not, ↓reduceIte, if_true, if_false, List.map_cons, List.map_nil, List.reduceReplicate, List.nil_append, List.cons_append, List.append_nil, List.length_cons, List.length_nil, Nat.reduceAdd, Nat.reduceSub, Nat.reduceMul, Nat.reduceLT, Nat.reduceLeDiff, Nat.reduceBEq, Nat.reduceEqDiff, decide_true, decide_false, decide_eq_true_eq, decide_eq_false_iff_not, Bool.and_true, Bool.true_and, Bool.and_false, Bool.false_and, Bool.or_true, Bool.true_or, Bool.or_false, Bool.false_or, Bool.not_true, Bool.not_false, sxc, List.getElem?_cons_zero, List.getElem?_cons_succ, List.drop_zero, List.drop_succ_cons, List.take_zero, List.take_succ_cons, List.zip_cons_cons, List.zip_nil_right, List.toList_toArray, Nat.zero_add, Option.map_some, Option.map_none, Option.isSome_some, true_and, and_true, forall_const, ne_eq, not_false_eq_true, true_implies, implies_true]
  refine loop_const [(4, 26)] (fun k : Nat => [(5, I k)]) (fun k H1 => k ≤ n ∧ H1 = [] ∧ partsR us v = partsGo us v (n - k) k) (fun k => n - k) 0 ?_ ⟨Nat.zero_le _, rfl, by rw [partsR, hn]; rfl⟩ ?_
  · simp (config := { maxSteps := 4000000 }) only [↓sx0, ↓sx1, ↓sx2, ↓sx3, ↓sx4, ↓sx5, ↓sx6, sx0, sx1, sx2, sx3, sx4, sx5, sx6, tf54, ev3_hold, sxo, List.all_cons, List.all_nil, Bool.not_eq_true', Bool.not_eq_false', and_self, Bool.false_eq_true, Bool.true_eq_false, false_implies, true_and, and_true, bne_self_eq_false, beq_self_eq_true, Int.reduceBEq, Int.reduceBNe, Int.reduceLT, Int.reduceLE, Int.reduceEq, Int.reduceToNat, Int.toNat_natCast, beq_iff_eq, bne_iff_ne, beq_eq_false_iff_ne, bne_eq_false_iff_eq, Decidable.not_not, ↓reduceIte, if_true, if_false, List.map_cons, List.map_nil, List.reduceReplicate, List.nil_append, List.cons_append, List.append_nil, List.length_cons, List.length_nil, Nat.reduceAdd, Nat.reduceSub, Nat.reduceMul, Nat.reduceLT, Nat.reduceLeDiff, Nat.reduceBEq, Nat.reduceEqDiff, decide_true, decide_false, decide_eq_true_eq, decide_eq_false_iff_not, Bool.and_true, Bool.true_and, Bool.and_false, Bool.false_and, Bool.or_true, Bool.true_or, Bool.or_false, Bool.false_or, Bool.not_true, Bool.not_false, sxc, List.getElem?_cons_zero, List.getElem?_cons_succ, List.drop_zero, List.drop_succ_cons, List.take_zero, List.take_succ_cons, List.zip_cons_cons, List.zip_nil_right, List.toList_toArray, Nat.zero_add, Option.map_some, Option.map_none, Option.isSome_some, true_and, and_true, forall_const, ne_eq, not_false_eq_true, true_implies, implies_true]
    simp
  · rintro k H1 g ⟨hk, rfl, ht⟩
    by_cases hkn : k = n
    · subst hkn
      have e7 : ((k : Int) < (k : Int)) = False := eq_false (by omega)
      rw [Nat.sub_self, partsGo] at ht
      simp (config := { maxSteps := 4000000 }) only [↓sx0, ↓sx1, ↓sx2, ↓sx3, ↓sx4, ↓sx5, ↓sx6, sx0, sx1, sx2, sx3, sx4, sx5, sx6, tf54, ev3_hold, sxo, List.all_cons, List.all_nil, Bool.not_eq_true', Bool.not_eq_false', and_self, Bool.false_eq_true, Bool.true_eq_false, false_implies, true_and, and_true, bne_self_eq_false, beq_self_eq_true, Int.reduceBEq, Int.reduceBNe, Int.reduceLT, Int.reduceLE, Int.reduceEq, Int.reduceToNat, Int.toNat_natCast, beq_iff_eq, bne_iff_ne, beq_eq_false_iff_ne, bne_eq_false_iff_eq, Decidable.not_not, ↓reduceIte, if_true, if_false, List.map_cons, List.map_nil, List.reduceReplicate, List.nil_append, List.cons_append, List.append_nil, List.length_cons, List.length_nil, Nat.reduceAdd, Nat.reduceSub, Nat.reduceMul, Nat.reduceLT, Nat.reduceLeDiff, Nat.reduceBEq, Nat.reduceEqDiff, decide_true, decide_false, decide_eq_true_eq, decide_eq_false_iff_not, Bool.and_true, Bool.true_and, Bool.and_false, Bool.false_and, Bool.or_true, Bool.true_or, Bool.or_false, Bool.false_or, Bool.not_true, Bool.not_false, sxc, List.getElem?_cons_zero, List.getElem?_cons_succ, List.drop_zero, List.drop_succ_cons, List.take_zero, List.take_succ_cons, List.zip_cons_cons, List.zip_nil_right, List.toList_toArray, Nat.zero_add, Option.map_some, Option.map_none, Option.isSome_some, true_and, and_true, forall_const, ne_eq, not_false_eq_true, true_implies, implies_true, e7, ht]
    · have e7 : ((k : Int) < (n : Int)) = True := eq_true (by omega)
      have e8 : wr ((k : Int) + 1) = ((k + 1 : Nat) : Int) := (wrap_id (by omega)).trans (by omega)
      have hkl : k < us.length := by omega
      have hui : us[k].ok := hok.2.2 _ (List.getElem_mem hkl)
      have hat : spdAt us k = spd us[k] (hiS us k) := by unfold spdAt; rw [List.getElem?_eq_getElem hkl]
      have hiff := spd_iff hui (hiS_bd hok k) hv.1 hv.2
      rw [show n - k = (n - (k + 1)) + 1 by omega, partsGo, hat] at ht
      simp (config := { maxSteps := 4000000 }) only [↓sx0, ↓sx1, ↓sx2, ↓sx3, ↓sx4, ↓sx5, ↓sx6, sx0, sx1, sx2, sx3, sx4, sx5, sx6, tf54, ev3_hold, sxo, List.all_cons, List.all_nil, Bool.not_eq_true', Bool.not_eq_false', and_self, Bool.false_eq_true, Bool.true_eq_false, false_implies, true_and, and_true, bne_self_eq_false, beq_self_eq_true, Int.reduceBEq, Int.reduceBNe, Int.reduceLT, Int.reduceLE, Int.reduceEq, Int.reduceToNat, Int.toNat_natCast, beq_iff_eq, bne_iff_ne, beq_eq_false_iff_ne, bne_eq_false_iff_eq, Decidable.not_not, ↓reduceIte, if_true, if_false, List.map_cons, List.map_nil, List.reduceReplicate, List.nil_append, List.cons_append, List.append_nil, List.length_cons, List.length_nil, Nat.reduceAdd, Nat.reduceSub, Nat.reduceMul, Nat.reduceLT, Nat.reduceLeDiff, Nat.reduceBEq, Nat.reduceEqDiff, decide_true, decide_false, decide_eq_true_eq, decide_eq_false_iff_not, Bool.and_true, Bool.true_and, Bool.and_false, Bool.false_and, Bool.or_true, Bool.true_or, Bool.or_false, Bool.false_or, Bool.not_true, Bool.not_false, sxc, List.getElem?_cons_zero, List.getElem?_cons_succ, List.drop_zero, List.drop_succ_cons, List.take_zero, List.take_succ_cons, List.zip_cons_cons, List.zip_nil_right, List.toList_toArray, Nat.zero_add, Option.map_some, Option.map_none, Option.isSome_some, true_and, and_true, forall_const, ne_eq, not_false_eq_true, true_implies, implies_true, e7]
      refine amid (at_p [I us[k].len, I us[k].mass, I us[k].str] (hr _) twc_len (List.getElem?_eq_getElem hkl) rfl rfl (by omega) fun ad => ?_)
      simp (config := { maxSteps := 4000000 }) only [↓sx0, ↓sx1, ↓sx2, ↓sx3, ↓sx4, ↓sx5, ↓sx6, sx0, sx1, sx2, sx3, sx4, sx5, sx6, tf54, ev3_hold, sxo, List.all_cons, List.all_nil, Bool.not_eq_true', Bool.not_eq_false', and_self, Bool.false_eq_true, Bool.true_eq_false, false_implies, true_and, and_true, bne_self_eq_false, beq_self_eq_true, Int.reduceBEq, Int.reduceBNe, Int.reduceLT, Int.reduceLE, Int.reduceEq, Int.reduceToNat, Int.toNat_natCast, beq_iff_eq, bne_iff_ne, beq_eq_false_iff_ne, bne_eq_false_iff_eq, Decidable.not_not, ↓reduceIte, if_true, if_false, List.map_cons, List.map_nil, List.reduceReplicate, List.nil_append, List.cons_append, List.append_nil, List.length_cons, List.length_nil, Nat.reduceAdd, Nat.reduceSub, Nat.reduceMul, Nat.reduceLT, Nat.reduceLeDiff, Nat.reduceBEq, Nat.reduceEqDiff, decide_true, decide_false, decide_eq_true_eq, decide_eq_false_iff_not, Bool.and_true, Bool.true_and, Bool.and_false, Bool.false_and, Bool.or_true, Bool.true_or, Bool.or_false, Bool.false_or, Bool.not_true, Bool.not_false, sxc, List.getElem?_cons_zero, List.getElem?_cons_succ, List.drop_zero, List.drop_succ_cons, List.take_zero, List.take_succ_cons, List.zip_cons_cons, List.zip_nil_right, List.toList_toArray, Nat.zero_add, Option.map_some, Option.map_none, Option.isSome_some, true_and, and_true, forall_const, ne_eq, not_false_eq_true, true_implies, implies_true, dn]
      refine CallOb.pure (fun w' hp => high_fn w' _ us (hs.hp (fun _ _ => id) hp) (by omega)) ?_
      intro r1 N1 g1
      obtain ⟨a1, c1, rfl⟩ := g1.shape
      simp (config := { maxSteps := 4000000 }) only [↓sx0, ↓sx1, ↓sx2, ↓sx3, ↓sx4, ↓sx5, ↓sx6, sx0, sx1, sx2, sx3, sx4, sx5, sx6, tf54, ev3_hold, sxo, List.all_cons, List.all_nil, Bool.not_eq_true', Bool.not_eq_false', and_self, Bool.false_eq_true, Bool.true_eq_false, false_implies, true_and, and_true, bne_self_eq_false, beq_self_eq_true, Int.reduceBEq, Int.reduceBNe, Int.reduceLT, Int.reduceLE, Int.reduceEq, Int.reduceToNat, Int.toNat_natCast, beq_iff_eq, bne_iff_ne, beq_eq_false_iff_ne, bne_eq_false_iff_eq, Decidable.not_not, ↓reduceIte, if_true, if_false, List.map_cons, List.map_nil, List.reduceReplicate, List.nil_append, List.cons_append, List.append_nil, List.length_cons, List.length_nil, Nat.reduceAdd, Nat.reduceSub, Nat.reduceMul, Nat.reduceLT, Nat.reduceLeDiff, Nat.reduceBEq, Nat.reduceEqDiff, decide_true, decide_false, decide_eq_true_eq, decide_eq_false_iff_not, Bool.and_true, Bool.true_and, Bool.and_false, Bool.false_and, Bool.or_true, Bool.true_or, Bool.or_false, Bool.false_or, Bool.not_true, Bool.not_false, sxc, List.getElem?_cons_zero, List.getElem?_cons_succ, List.drop_zero, List.drop_succ_cons, List.take_zero, List.take_succ_cons, List.zip_cons_cons, List.zip_nil_right, List.toList_toArray, Nat.zero_add, Option.map_some, Option.map_none, Option.isSome_some, true_and, and_true, forall_const, ne_eq, not_false_eq_true, true_implies, implies_true, dn]
      refine CallOb.pure (fun w' hp => force_fn w' _ (us.map Tw.dh) k v (g1.hp (by simp +contextual) hp) (small_dh hok) (by simp; omega) (by omega)) ?_
      rintro r N2 rfl
      rw [hiS_sum]
      simp (config := { maxSteps := 4000000 }) only [↓sx0, ↓sx1, ↓sx2, ↓sx3, ↓sx4, ↓sx5, ↓sx6, sx0, sx1, sx2, sx3, sx4, sx5, sx6, tf54, ev3_hold, sxo, List.all_cons, List.all_nil, Bool.not_eq_true', Bool.not_eq_false', and_self, Bool.false_eq_true, Bool.true_eq_false, false_implies, true_and, and_true, bne_self_eq_false, beq_self_eq_true, Int.reduceBEq, Int.reduceBNe, Int.reduceLT, Int.reduceLE, Int.reduceEq, Int.reduceToNat, Int.toNat_natCast, beq_iff_eq, bne_iff_ne, beq_eq_false_iff_ne, bne_eq_false_iff_eq, Decidable.not_not, ↓reduceIte, if_true, if_false, List.map_cons, List.map_nil, List.reduceReplicate, List.nil_append, List.cons_append, List.append_nil, List.length_cons, List.length_nil, Nat.reduceAdd, Nat.reduceSub, Nat.reduceMul, Nat.reduceLT, Nat.reduceLeDiff, Nat.reduceBEq, Nat.reduceEqDiff, decide_true, decide_false, decide_eq_true_eq, decide_eq_false_iff_not, Bool.and_true, Bool.true_and, Bool.and_false, Bool.false_and, Bool.or_true, Bool.true_or, Bool.or_false, Bool.false_or, Bool.not_true, Bool.not_false, sxc, List.getElem?_cons_zero, List.getElem?_cons_succ, List.drop_zero, List.drop_succ_cons, List.take_zero, List.take_succ_cons, List.zip_cons_cons, List.zip_nil_right, List.toList_toArray, Nat.zero_add, Option.map_some, Option.map_none, Option.isSome_some, true_and, and_true, forall_const, ne_eq, not_false_eq_true, true_implies, implies_true, dn, detG_eq]
      refine ⟨fun c1 => ?_, fun c1 => ?_⟩
      · rw [ht, if_pos (by omega)]
      · simp (config := { maxSteps := 4000000 }) only [↓sx0, ↓sx1, ↓sx2, ↓sx3, ↓sx4, ↓sx5, ↓sx6, sx0, sx1, sx2, sx3, sx4, sx5, sx6, tf54, ev3_hold, sxo, List.all_cons, List.all_nil, Bool.not_eq_true', Bool.not_eq_false', and_self, Bool.false_eq_true, Bool.true_eq_false, false_implies, true_and, and_true, bne_self_eq_false, beq_self_eq_true, Int.reduceBEq, Int.reduceBNe, Int.reduceLT, Int.reduceLE, Int.reduceEq, Int.reduceToNat, Int.toNat_natCast, beq_iff_eq, bne_iff_ne, beq_eq_false_iff_ne, bne_eq_false_iff_eq, Decidable.not_not, ↓reduceIte, if_true, if_false, List.map_cons, List.map_nil, List.reduceReplicate, List.nil_append, List.cons_append, List.append_nil, List.length_cons, List.length_nil, Nat.reduceAdd, Nat.reduceSub, Nat.reduceMul, Nat.reduceLT, Nat.reduceLeDiff, Nat.reduceBEq, Nat.reduceEqDiff, decide_true, decide_false, decide_eq_true_eq, decide_eq_false_iff_not, Bool.and_true, Bool.true_and, Bool.and_false, Bool.false_and, Bool.or_true, Bool.true_or, Bool.or_false, Bool.false_or, Bool.not_true, Bool.not_false, sxc, List.getElem?_cons_zero, List.getElem?_cons_succ, List.drop_zero, List.drop_succ_cons, List.take_zero, List.take_succ_cons, List.zip_cons_cons, List.zip_nil_right, List.toList_toArray, Nat.zero_add, Option.map_some, Option.map_none, Option.isSome_some, true_and, and_true, forall_const, ne_eq, not_false_eq_true, true_implies, implies_true, e8]
        refine ⟨k + 1, _, rfl, HImp.nil _ _, ⟨by omega, rfl, ?_⟩, by omega⟩
        rw [ht, if_neg (by omega)]

/-! ### The weakest line -/

def isWeak (us : List Tw) (i : Nat) : Prop := i < us.length ∧ spdAt us i < 20 ∧ (∀ j, j < us.length → spdAt us i ≤ spdAt us j) ∧ ∀ j, j < i → spdAt us i < spdAt us j

def weakSpec (us : List Tw) (x e : Int) : Prop := (e = 0 ∧ ∃ i : Nat, x = i ∧ isWeak us i) ∨ (e = 3 ∧ x = 0 ∧ ∀ j, j < us.length → 20 ≤ spdAt us j)

theorem weak_uniq {us : List Tw} {x e x' e' : Int} (h : weakSpec us x e) (h' : weakSpec us x' e') : x = x' ∧ e = e' := by
  rcases h with ⟨rfl, i, rfl, a1, a2, a3, a4⟩ | ⟨rfl, rfl, a⟩ <;> rcases h' with ⟨rfl, j, rfl, b1, b2, b3, b4⟩ | ⟨rfl, rfl, b⟩
  · refine ⟨?_, rfl⟩
    have c1 := a3 j b1
    have c2 := b3 i a1
    by_cases h1 : i < j
    · have := b4 i h1; omega
    · by_cases h2 : j < i
      · have := a4 j h2; omega
      · omega
  · have := b i a1; omega
  · have := a j b1; omega
  · exact ⟨rfl, rfl⟩

theorem partsGo_spec (us : List Tw) (v : Nat) : ∀ (n k : Nat), (partsGo us v n k = -1 ∧ ∀ j, k ≤ j → j < k + n → v ≤ spdAt us j) ∨ ∃ i : Nat, partsGo us v n k = i ∧ k ≤ i ∧ i < k + n ∧ spdAt us i < v ∧ ∀ j, k ≤ j → j < i → v ≤ spdAt us j
  | 0, k => .inl ⟨rfl, fun j h1 h2 => by omega⟩
  | n + 1, k => by
    rw [partsGo]
    by_cases h : spdAt us k < v
    · rw [if_pos h]
      exact .inr ⟨k, rfl, Nat.le_refl _, by omega, h, fun j h1 h2 => by omega⟩
    · rw [if_neg h]
      rcases partsGo_spec us v n (k + 1) with ⟨h1, h2⟩ | ⟨i, h1, h2, h3, h4, h5⟩
      · refine .inl ⟨h1, fun j a b => ?_⟩
        by_cases e : j = k
        · subst e; omega
        · exact h2 j (by omega) (by omega)
      · refine .inr ⟨i, h1, by omega, by omega, h4, fun j a b => ?_⟩
        by_cases e : j = k
        · subst e; omega
        · exact h5 j (by omega) b

theorem parts_spec (us : List Tw) (v : Nat) : (partsR us v = -1 ∧ ∀ j, j < us.length → v ≤ spdAt us j) ∨ ∃ i : Nat, partsR us v = i ∧ i < us.length ∧ spdAt us i < v ∧ ∀ j, j < i → v ≤ spdAt us j := by
  rcases partsGo_spec us v us.length 0 with ⟨h1, h2⟩ | ⟨i, h1, h2, h3, h4, h5⟩
  · exact .inl ⟨h1, fun j h => h2 j (Nat.zero_le _) (by omega)⟩
  · exact .inr ⟨i, h1, by omega, h4, fun j h => h5 j (Nat.zero_le _) h⟩

/-- What Weakest knows behind k rounds, from the last line on. -/
def wkInv (us : List Tw) (k : Nat) (wk lst : Nat) : Prop := lst ≤ 20 ∧ (∀ j, us.length - k ≤ j → j < us.length → min 20 (spdAt us j) ≥ lst) ∧ (lst = 20 ∨ (us.length - k ≤ wk ∧ wk < us.length ∧ spdAt us wk = lst ∧ ∀ j, us.length - k ≤ j → j < wk → lst < spdAt us j))

theorem wk_step {us : List Tw} {k wk lst : Nat} (hk : k < us.length) (h : wkInv us k wk lst) :
    (spdAt us (us.length - 1 - k) < 20 → spdAt us (us.length - 1 - k) ≤ lst → wkInv us (k + 1) (us.length - 1 - k) (spdAt us (us.length - 1 - k))) ∧
    ((20 ≤ spdAt us (us.length - 1 - k) ∨ lst < spdAt us (us.length - 1 - k)) → wkInv us (k + 1) wk lst) := by
  obtain ⟨h1, h2, h3⟩ := h
  refine ⟨fun a b => ⟨by omega, fun j c d => ?_, .inr ⟨by omega, by omega, rfl, fun j c d => by omega⟩⟩, fun a => ⟨h1, fun j c d => ?_, ?_⟩⟩
  · by_cases e : j = us.length - 1 - k
    · subst e; omega
    · have := h2 j (by omega) d; omega
  · by_cases e : j = us.length - 1 - k
    · subst e; omega
    · exact h2 j (by omega) d
  · rcases h3 with h3 | ⟨c1, c2, c3, c4⟩
    · exact .inl h3
    · by_cases hl : lst = 20
      · exact .inl hl
      · refine .inr ⟨by omega, c2, c3, fun j d1 d2 => ?_⟩
        by_cases e : j = us.length - 1 - k
        · subst e; omega
        · exact c4 j (by omega) d2

theorem weakest_fn (w : World) (s : Value) (us : List Tw) (hs : Sl w s 5 (twcs us)) (hok : okT us) :
    SX.Fn Try.prog 27 [.agg #[s]] w (fun _ => False) fun r N => ∃ x e, r = .tuple #[I x, I e] ∧ weakSpec us x e := by
  obtain ⟨a, n, c, rfl⟩ := hs.shape
  have hn := hs.le (f := twc) twc_len (by omega)
  have hr := hs.rd0
  have h8 := hok.2.1
  have ht := (train_iff us).2 hok
  have hD := detG_ok (X := fun _ => False) hs (fun _ _ => id)
  refine walk [] [] hD Try.func27 rfl Try.ntmps27 res27 (by kernel_rfl) no_facts ?_
  simp (config := { maxSteps := 4000000 }) only [↓sx0, ↓sx1, ↓sx2, ↓sx3, ↓sx4, ↓sx5, ↓sx6, sx0, sx1, sx2, sx3, sx4, sx5, sx6, tf27, ev3_hold, sxo, List.all_cons, List.all_nil, Bool.not_eq_true', Bool.not_eq_false', and_self, Bool.false_eq_true, Bool.true_eq_false, false_implies, true_and, and_true, bne_self_eq_false, beq_self_eq_true, Int.reduceBEq, Int.reduceBNe, Int.reduceLT, Int.reduceLE, Int.reduceEq, Int.reduceToNat, Int.toNat_natCast, beq_iff_eq, bne_iff_ne, beq_eq_false_iff_ne, bne_eq_false_iff_eq, Decidable.not_not, ↓reduceIte, if_true, if_false, List.map_cons, List.map_nil, List.reduceReplicate, List.nil_append, List.cons_append, List.append_nil, List.length_cons, List.length_nil, Nat.reduceAdd, Nat.reduceSub, Nat.reduceMul, Nat.reduceLT, Nat.reduceLeDiff, Nat.reduceBEq, Nat.reduceEqDiff, decide_true, decide_false, decide_eq_true_eq, decide_eq_false_iff_not, Bool.and_true, Bool.true_and, Bool.and_false, Bool.false_and, Bool.or_true, Bool.true_or, Bool.or_false, Bool.false_or, Bool.not_true, Bool.not_false, sxc, List.getElem?_cons_zero, List.getElem?_cons_succ, List.drop_zero, List.drop_succ_cons, List.take_zero, List.take_succ_cons, List.zip_cons_cons, List.zip_nil_right, List.toList_toArray, Nat.zero_add, Option.map_some, Option.map_none, Option.isSome_some, true_and, and_true, forall_const, ne_eq, not_false_eq_true, true_implies, implies_true, detG_eq, ht]
  refine range_introR Try.call44 n (dragArg us) [] [] (fun k L' H' => H' = [] ∧ ∃ wk lst : Nat, wkInv us k wk lst ∧ L' = [(34, [.slice a n c]), (3, [I wk]), (3, [I lst])]) (rsl w (.slice a n c))
    (HImp.refl _ _) (fun x hx => .inl ⟨hx.2, id⟩) (fun w' hp => ?_) ⟨rfl, 0, 20, ⟨by omega, fun j h1 h2 => by omega, .inl rfl⟩, rfl⟩ ?_ ?_ ?_
  · have := drags_it w' (.slice a n c) us (hs.hpR (fun _ _ => id) hp) hok
    rw [hn] at this
    exact this.mono fun x hx => hs.rsl (by rw [twcs_cat, cat_len twc_len]; have := hok.1; omega) hx
  · rintro k vs F ⟨rfl, _⟩
    rfl
  · rintro k vs F L' H' hk ⟨rfl, rfl⟩ - ⟨rfl, wk, lst, hw, rfl⟩
    have hkl : us.length - 1 - k < us.length := by omega
    have hst := wk_step (by omega) hw
    have hui : us[us.length - 1 - k].ok := hok.2.2 _ (List.getElem_mem hkl)
    have hat : spdAt us (us.length - 1 - k) = spdGo us[us.length - 1 - k].str (hiS us (us.length - 1 - k)) 20 := by unfold spdAt; rw [List.getElem?_eq_getElem hkl]; rfl
    simp (config := { maxSteps := 4000000 }) only [↓sx0, ↓sx1, ↓sx2, ↓sx3, ↓sx4, ↓sx5, ↓sx6, sx0, sx1, sx2, sx3, sx4, sx5, sx6, tf27, ev3_hold, sxo, List.all_cons, List.all_nil, Bool.not_eq_true', Bool.not_eq_false', and_self, Bool.false_eq_true, Bool.true_eq_false, false_implies, true_and, and_true, bne_self_eq_false, beq_self_eq_true, Int.reduceBEq, Int.reduceBNe, Int.reduceLT, Int.reduceLE, Int.reduceEq, Int.reduceToNat, Int.toNat_natCast, beq_iff_eq, bne_iff_ne, beq_eq_false_iff_ne, bne_eq_false_iff_eq, Decidable.not_not, ↓reduceIte, if_true, if_false, List.map_cons, List.map_nil, List.reduceReplicate, List.nil_append, List.cons_append, List.append_nil, List.length_cons, List.length_nil, Nat.reduceAdd, Nat.reduceSub, Nat.reduceMul, Nat.reduceLT, Nat.reduceLeDiff, Nat.reduceBEq, Nat.reduceEqDiff, decide_true, decide_false, decide_eq_true_eq, decide_eq_false_iff_not, Bool.and_true, Bool.true_and, Bool.and_false, Bool.false_and, Bool.or_true, Bool.true_or, Bool.or_false, Bool.false_or, Bool.not_true, Bool.not_false, sxc, List.getElem?_cons_zero, List.getElem?_cons_succ, List.drop_zero, List.drop_succ_cons, List.take_zero, List.take_succ_cons, List.zip_cons_cons, List.zip_nil_right, List.toList_toArray, Nat.zero_add, Option.map_some, Option.map_none, Option.isSome_some, true_and, and_true, forall_const, ne_eq, not_false_eq_true, true_implies, implies_true]
    refine at_p [I us[us.length - 1 - k].len, I us[us.length - 1 - k].mass, I us[us.length - 1 - k].str] (hr _) twc_len (List.getElem?_eq_getElem hkl) rfl rfl (by omega) fun ad => ?_
    simp (config := { maxSteps := 4000000 }) only [↓sx0, ↓sx1, ↓sx2, ↓sx3, ↓sx4, ↓sx5, ↓sx6, sx0, sx1, sx2, sx3, sx4, sx5, sx6, tf27, ev3_hold, sxo, List.all_cons, List.all_nil, Bool.not_eq_true', Bool.not_eq_false', and_self, Bool.false_eq_true, Bool.true_eq_false, false_implies, true_and, and_true, bne_self_eq_false, beq_self_eq_true, Int.reduceBEq, Int.reduceBNe, Int.reduceLT, Int.reduceLE, Int.reduceEq, Int.reduceToNat, Int.toNat_natCast, beq_iff_eq, bne_iff_ne, beq_eq_false_iff_ne, bne_eq_false_iff_eq, Decidable.not_not, ↓reduceIte, if_true, if_false, List.map_cons, List.map_nil, List.reduceReplicate, List.nil_append, List.cons_append, List.append_nil, List.length_cons, List.length_nil, Nat.reduceAdd, Nat.reduceSub, Nat.reduceMul, Nat.reduceLT, Nat.reduceLeDiff, Nat.reduceBEq, Nat.reduceEqDiff, decide_true, decide_false, decide_eq_true_eq, decide_eq_false_iff_not, Bool.and_true, Bool.true_and, Bool.and_false, Bool.false_and, Bool.or_true, Bool.true_or, Bool.or_false, Bool.false_or, Bool.not_true, Bool.not_false, sxc, List.getElem?_cons_zero, List.getElem?_cons_succ, List.drop_zero, List.drop_succ_cons, List.take_zero, List.take_succ_cons, List.zip_cons_cons, List.zip_nil_right, List.toList_toArray, Nat.zero_add, Option.map_some, Option.map_none, Option.isSome_some, true_and, and_true, forall_const, ne_eq, not_false_eq_true, true_implies, implies_true, detG_eq]
    rw [← hat]
    generalize spdAt us (us.length - 1 - k) = q at *
    refine ⟨fun c1 => ⟨fun c2 => ⟨_, HImp.refl _ _, rfl, us.length - 1 - k, q, hst.1 (by omega) (by omega), rfl⟩, fun c2 => ⟨_, HImp.refl _ _, rfl, wk, lst, hst.2 (by omega), rfl⟩⟩, fun c1 => ⟨_, HImp.refl _ _, rfl, wk, lst, hst.2 (by omega), rfl⟩⟩
  · rintro L' H' - ⟨rfl, wk, lst, ⟨h1, h2, h3⟩, rfl⟩
    simp (config := { maxSteps := 4000000 }) only [↓sx0, ↓sx1, ↓sx2, ↓sx3, ↓sx4, ↓sx5, ↓sx6, sx0, sx1, sx2, sx3, sx4, sx5, sx6, tf27, ev3_hold, sxo, List.all_cons, List.all_nil, Bool.not_eq_true', Bool.not_eq_false', and_self, Bool.false_eq_true, Bool.true_eq_false, false_implies, true_and, and_true, bne_self_eq_false, beq_self_eq_true, Int.reduceBEq, Int.reduceBNe, Int.reduceLT, Int.reduceLE, Int.reduceEq, Int.reduceToNat, Int.toNat_natCast, beq_iff_eq, bne_iff_ne, beq_eq_false_iff_ne, bne_eq_false_iff_eq, Decidable.not_not, ↓reduceIte, if_true, if_false, List.map_cons, List.map_nil, List.reduceReplicate, List.nil_append, List.cons_append, List.append_nil, List.length_cons, List.length_nil, Nat.reduceAdd, Nat.reduceSub, Nat.reduceMul, Nat.reduceLT, Nat.reduceLeDiff, Nat.reduceBEq, Nat.reduceEqDiff, decide_true, decide_false, decide_eq_true_eq, decide_eq_false_iff_not, Bool.and_true, Bool.true_and, Bool.and_false, Bool.false_and, Bool.or_true, Bool.true_or, Bool.or_false, Bool.false_or, Bool.not_true, Bool.not_false, sxc, List.getElem?_cons_zero, List.getElem?_cons_succ, List.drop_zero, List.drop_succ_cons, List.take_zero, List.take_succ_cons, List.zip_cons_cons, List.zip_nil_right, List.toList_toArray, Nat.zero_add, Option.map_some, Option.map_none, Option.isSome_some, true_and, and_true, forall_const, ne_eq, not_false_eq_true, true_implies, implies_true]
    refine ⟨fun c1 => ⟨0, 3, rfl, .inr ⟨rfl, rfl, fun j hj => ?_⟩⟩, fun c1 => ⟨wk, 0, rfl, .inl ⟨rfl, wk, rfl, ?_⟩⟩⟩
    · have := h2 j (by omega) hj
      omega
    · rcases h3 with h3 | ⟨a1, a2, a3, a4⟩
      · omega
      · refine ⟨a2, by omega, fun j hj => ?_, fun j hj => ?_⟩
        · have := h2 j (by omega) hj
          omega
        · have := a4 j (by omega) hj
          omega

theorem rweakest_fn (w : World) (s : Value) (us : List Tw) (hs : Sl w s 5 (twcs us)) (hok : okT us) :
    SX.Fn Try.prog 28 [.agg #[s]] w (fun _ => False) fun r N => ∃ x e, r = .tuple #[I x, I e] ∧ weakSpec us x e := by
  obtain ⟨a, n, c, rfl⟩ := hs.shape
  have hn := hs.le (f := twc) twc_len (by omega)
  have ht := (train_iff us).2 hok
  have hD := detG_ok (X := fun _ => False) hs (fun _ _ => id)
  have dn : (∀ xs, detG (.slice a n c) us 54 xs = none) := fun _ => rfl
  refine walk [] [] hD Try.func28 rfl Try.ntmps28 res28 (by kernel_rfl) no_facts ?_
  simp (config := { maxSteps := 4000000 }) only [↓sx0, ↓sx1, ↓sx2, ↓sx3, ↓sx4, ↓sx5, ↓sx6, sx0, sx1, sx2, sx3, sx4, sx5, sx6, tf28, ev3_hold, sxo, List.all_cons, List.all_nil, Bool.not_eq_true', Bool.not_eq_false', and_self, Bool.false_eq_true, Bool.true_eq_false, false_implies, true_and, and_true, bne_self_eq_false, beq_self_eq_true, Int.reduceBEq, Int.reduceBNe, Int.reduceLT, Int.reduceLE, Int.reduceEq, Int.reduceToNat, Int.toNat_natCast, beq_iff_eq, bne_iff_ne, beq_eq_false_iff_ne, bne_eq_false_iff_eq, Decidable.not_not, ↓reduceIte, if_true, if_false, List.map_cons, List.map_nil, List.reduceReplicate, List.nil_append, List.cons_append, List.append_nil, List.length_cons, List.length_nil, Nat.reduceAdd, Nat.reduceSub, Nat.reduceMul, Nat.reduceLT, Nat.reduceLeDiff, Nat.reduceBEq, Nat.reduceEqDiff, decide_true, decide_false, decide_eq_true_eq, decide_eq_false_iff_not, Bool.and_true, Bool.true_and, Bool.and_false, Bool.false_and, Bool.or_true, Bool.true_or, Bool.or_false, Bool.false_or, Bool.not_true, Bool.not_false, sxc, List.getElem?_cons_zero, List.getElem?_cons_succ, List.drop_zero, List.drop_succ_cons, List.take_zero, List.take_succ_cons, List.zip_cons_cons, List.zip_nil_right, List.toList_toArray, Nat.zero_add, Option.map_some, Option.map_none, Option.isSome_some, true_and, and_true, forall_const, ne_eq, not_false_eq_true, true_implies, implies_true, detG_eq, ht]
  refine loop_const [(2, 5), (9, 18)] (fun k : Nat => [(4, I ((k : Int) + 1))]) (fun k H1 => k ≤ 20 ∧ H1 = [] ∧ ∀ j, j < us.length → k ≤ spdAt us j) (fun k => 20 - k) 0 ?_ ⟨Nat.zero_le _, rfl, fun j _ => Nat.zero_le _⟩ ?_
  · simp (config := { maxSteps := 4000000 }) only [↓sx0, ↓sx1, ↓sx2, ↓sx3, ↓sx4, ↓sx5, ↓sx6, sx0, sx1, sx2, sx3, sx4, sx5, sx6, tf28, ev3_hold, sxo, List.all_cons, List.all_nil, Bool.not_eq_true', Bool.not_eq_false', and_self, Bool.false_eq_true, Bool.true_eq_false, false_implies, true_and, and_true, bne_self_eq_false, beq_self_eq_true, Int.reduceBEq, Int.reduceBNe, Int.reduceLT, Int.reduceLE, Int.reduceEq, Int.reduceToNat, Int.toNat_natCast, beq_iff_eq, bne_iff_ne, beq_eq_false_iff_ne, bne_eq_false_iff_eq, Decidable.not_not, ↓reduceIte, if_true, if_false, List.map_cons, List.map_nil, List.reduceReplicate, List.nil_append, List.cons_append, List.append_nil, List.length_cons, List.length_nil, Nat.reduceAdd, Nat.reduceSub, Nat.reduceMul, Nat.reduceLT, Nat.reduceLeDiff, Nat.reduceBEq, Nat.reduceEqDiff, decide_true, decide_false, decide_eq_true_eq, decide_eq_false_iff_not, Bool.and_true, Bool.true_and, Bool.and_false, Bool.false_and, Bool.or_true, Bool.true_or, Bool.or_false, Bool.false_or, Bool.not_true, Bool.not_false, sxc, List.getElem?_cons_zero, List.getElem?_cons_succ, List.drop_zero, List.drop_succ_cons, List.take_zero, List.take_succ_cons, List.zip_cons_cons, List.zip_nil_right, List.toList_toArray, Nat.zero_add, Option.map_some, Option.map_none, Option.isSome_some, true_and, and_true, forall_const, ne_eq, not_false_eq_true, true_implies, implies_true]
    simp
  · rintro k H1 g ⟨hk, rfl, hall⟩
    by_cases hk20 : k = 20
    · subst hk20
      have e7 : (((20 : Nat) : Int) + 1 ≤ 20) = False := eq_false (by omega)
      simp (config := { maxSteps := 4000000 }) only [↓sx0, ↓sx1, ↓sx2, ↓sx3, ↓sx4, ↓sx5, ↓sx6, sx0, sx1, sx2, sx3, sx4, sx5, sx6, tf28, ev3_hold, sxo, List.all_cons, List.all_nil, Bool.not_eq_true', Bool.not_eq_false', and_self, Bool.false_eq_true, Bool.true_eq_false, false_implies, true_and, and_true, bne_self_eq_false, beq_self_eq_true, Int.reduceBEq, Int.reduceBNe, Int.reduceLT, Int.reduceLE, Int.reduceEq, Int.reduceToNat, Int.toNat_natCast, beq_iff_eq, bne_iff_ne, beq_eq_false_iff_ne, bne_eq_false_iff_eq, Decidable.not_not, ↓reduceIte, if_true, if_false, List.map_cons, List.map_nil, List.reduceReplicate, List.nil_append, List.cons_append, List.append_nil, List.length_cons, List.length_nil, Nat.reduceAdd, Nat.reduceSub, Nat.reduceMul, Nat.reduceLT, Nat.reduceLeDiff, Nat.reduceBEq, Nat.reduceEqDiff, decide_true, decide_false, decide_eq_true_eq, decide_eq_false_iff_not, Bool.and_true, Bool.true_and, Bool.and_false, Bool.false_and, Bool.or_true, Bool.true_or, Bool.or_false, Bool.false_or, Bool.not_true, Bool.not_false, sxc, List.getElem?_cons_zero, List.getElem?_cons_succ, List.drop_zero, List.drop_succ_cons, List.take_zero, List.take_succ_cons, List.zip_cons_cons, List.zip_nil_right, List.toList_toArray, Nat.zero_add, Option.map_some, Option.map_none, Option.isSome_some, true_and, and_true, forall_const, ne_eq, not_false_eq_true, true_implies, implies_true, e7]
      exact ⟨0, 3, rfl, .inr ⟨rfl, rfl, hall⟩⟩
    · have e7 : ((k : Int) + 1 ≤ 20) = True := eq_true (by omega)
      have e8 : wr ((k : Int) + 1 + 1) = ((k + 1 : Nat) : Int) + 1 := (wrap_id (by omega)).trans (by omega)
      have e9 : (k : Int) + 1 = ((k + 1 : Nat) : Int) := by omega
      simp (config := { maxSteps := 4000000 }) only [↓sx0, ↓sx1, ↓sx2, ↓sx3, ↓sx4, ↓sx5, ↓sx6, sx0, sx1, sx2, sx3, sx4, sx5, sx6, tf28, ev3_hold, sxo, List.all_cons, List.all_nil, Bool.not_eq_true', Bool.not_eq_false', and_self, Bool.false_eq_true, Bool.true_eq_false, false_implies, true_and, and_true, bne_self_eq_false, beq_self_eq_true, Int.reduceBEq, Int.reduceBNe, Int.reduceLT, Int.reduceLE, Int.reduceEq, Int.reduceToNat, Int.toNat_natCast, beq_iff_eq, bne_iff_ne, beq_eq_false_iff_ne, bne_eq_false_iff_eq, Decidable.not_not, ↓reduceIte, if_true, if_false, List.map_cons, List.map_nil, List.reduceReplicate, List.nil_append, List.cons_append, List.append_nil, List.length_cons, List.length_nil, Nat.reduceAdd, Nat.reduceSub, Nat.reduceMul, Nat.reduceLT, Nat.reduceLeDiff, Nat.reduceBEq, Nat.reduceEqDiff, decide_true, decide_false, decide_eq_true_eq, decide_eq_false_iff_not, Bool.and_true, Bool.true_and, Bool.and_false, Bool.false_and, Bool.or_true, Bool.true_or, Bool.or_false, Bool.false_or, Bool.not_true, Bool.not_false, sxc, List.getElem?_cons_zero, List.getElem?_cons_succ, List.drop_zero, List.drop_succ_cons, List.take_zero, List.take_succ_cons, List.zip_cons_cons, List.zip_nil_right, List.toList_toArray, Nat.zero_add, Option.map_some, Option.map_none, Option.isSome_some, true_and, and_true, forall_const, ne_eq, not_false_eq_true, true_implies, implies_true, e7, dn]
      rw [e9]
      refine CallOb.pure (fun w' hp => parts_fn w' _ us (k + 1) (hs.hp (fun _ _ => id) hp) hok (by omega)) ?_
      rintro r N rfl
      rcases parts_spec us (k + 1) with ⟨h1, h2⟩ | ⟨i, h1, h2, h3, h4⟩
      · rw [h1, ← e9]
        have e11 : ((-1 : Int) ≥ 0) = False := eq_false (by omega)
        simp (config := { maxSteps := 4000000 }) only [↓sx0, ↓sx1, ↓sx2, ↓sx3, ↓sx4, ↓sx5, ↓sx6, sx0, sx1, sx2, sx3, sx4, sx5, sx6, tf28, ev3_hold, sxo, List.all_cons, List.all_nil, Bool.not_eq_true', Bool.not_eq_false', and_self, Bool.false_eq_true, Bool.true_eq_false, false_implies, true_and, and_true, bne_self_eq_false, beq_self_eq_true, Int.reduceBEq, Int.reduceBNe, Int.reduceLT, Int.reduceLE, Int.reduceEq, Int.reduceToNat, Int.toNat_natCast, beq_iff_eq, bne_iff_ne, beq_eq_false_iff_ne, bne_eq_false_iff_eq, Decidable.not_not, ↓reduceIte, if_true, if_false, List.map_cons, List.map_nil, List.reduceReplicate, List.nil_append, List.cons_append, List.append_nil, List.length_cons, List.length_nil, Nat.reduceAdd, Nat.reduceSub, Nat.reduceMul, Nat.reduceLT, Nat.reduceLeDiff, Nat.reduceBEq, Nat.reduceEqDiff, decide_true, decide_false, decide_eq_true_eq, decide_eq_false_iff_not, Bool.and_true, Bool.true_and, Bool.and_false, Bool.false_and, Bool.or_true, Bool.true_or, Bool.or_false, Bool.false_or, Bool.not_true, Bool.not_false, sxc, List.getElem?_cons_zero, List.getElem?_cons_succ, List.drop_zero, List.drop_succ_cons, List.take_zero, List.take_succ_cons, List.zip_cons_cons, List.zip_nil_right, List.toList_toArray, Nat.zero_add, Option.map_some, Option.map_none, Option.isSome_some, true_and, and_true, forall_const, ne_eq, not_false_eq_true, true_implies, implies_true, e8, e11]
        exact ⟨k + 1, _, rfl, HImp.nil _ _, ⟨by omega, rfl, h2⟩, by omega⟩
      · rw [h1, ← e9]
        have e10 : ((i : Int) ≥ 0) = True := eq_true (by omega)
        simp (config := { maxSteps := 4000000 }) only [↓sx0, ↓sx1, ↓sx2, ↓sx3, ↓sx4, ↓sx5, ↓sx6, sx0, sx1, sx2, sx3, sx4, sx5, sx6, tf28, ev3_hold, sxo, List.all_cons, List.all_nil, Bool.not_eq_true', Bool.not_eq_false', and_self, Bool.false_eq_true, Bool.true_eq_false, false_implies, true_and, and_true, bne_self_eq_false, beq_self_eq_true, Int.reduceBEq, Int.reduceBNe, Int.reduceLT, Int.reduceLE, Int.reduceEq, Int.reduceToNat, Int.toNat_natCast, beq_iff_eq, bne_iff_ne, beq_eq_false_iff_ne, bne_eq_false_iff_eq, Decidable.not_not, ↓reduceIte, if_true, if_false, List.map_cons, List.map_nil, List.reduceReplicate, List.nil_append, List.cons_append, List.append_nil, List.length_cons, List.length_nil, Nat.reduceAdd, Nat.reduceSub, Nat.reduceMul, Nat.reduceLT, Nat.reduceLeDiff, Nat.reduceBEq, Nat.reduceEqDiff, decide_true, decide_false, decide_eq_true_eq, decide_eq_false_iff_not, Bool.and_true, Bool.true_and, Bool.and_false, Bool.false_and, Bool.or_true, Bool.true_or, Bool.or_false, Bool.false_or, Bool.not_true, Bool.not_false, sxc, List.getElem?_cons_zero, List.getElem?_cons_succ, List.drop_zero, List.drop_succ_cons, List.take_zero, List.take_succ_cons, List.zip_cons_cons, List.zip_nil_right, List.toList_toArray, Nat.zero_add, Option.map_some, Option.map_none, Option.isSome_some, true_and, and_true, forall_const, ne_eq, not_false_eq_true, true_implies, implies_true, e10]
        refine ⟨i, 0, rfl, .inl ⟨rfl, i, rfl, h2, by omega, fun j hj => ?_, fun j hj => ?_⟩⟩
        · have := hall j hj
          omega
        · have := h4 j hj
          omega

end Go.Proofs.Ytpfbpelkodlljaa
