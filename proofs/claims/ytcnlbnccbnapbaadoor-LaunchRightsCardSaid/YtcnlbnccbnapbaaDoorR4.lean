/- Parts of a proof: the symbolic walk and what it shows of single functions. -/
import Derived.Test.YtcnlbnccbnapbaaDoorR3
set_option linter.all false
namespace Go.Proofs.YtcnlbnccbnapbaaDoor
open Go.RowKit Go.SX
set_option maxRecDepth 10000
set_option maxHeartbeats 0
set_option linter.unusedSimpArgs false
set_option linter.unusedVariables false
theorem pick_nat {n s : Nat} (hn : n ≤ 10) (hs : s < 2 ^ n) : pick (bitP s) n = pick s.testBit n :=
  pick_congr fun i hi => bitP_nat (Nat.lt_of_lt_of_le hs (Nat.le_trans (Nat.pow_le_pow_right (by decide) hn) (by decide))) (by omega)
def RefI (P : List Int → Bool) (n s : Nat) (found : Bool) (b : List Int) : Prop :=
  (found = false ∧ b = [] ∧ ∀ s', s' < s → P (pick s'.testBit n) = false) ∨ (found = true ∧ b.Sublist (idx n) ∧ P b = true ∧ ∀ s', s' < s → P (pick s'.testBit n) = true → befB (pick s'.testBit n) b = false)
theorem RefI.zero (P : List Int → Bool) (n : Nat) : RefI P n 0 false [] := .inl ⟨rfl, rfl, fun s' h => by omega⟩
theorem RefI.no {P : List Int → Bool} {n s : Nat} {found : Bool} {b : List Int} (h : RefI P n s found b) (hP : P (pick s.testBit n) = false) : RefI P n (s + 1) found b := by
  rcases h with ⟨a1, a2, a3⟩ | ⟨a1, a2, a3, a4⟩
  · refine .inl ⟨a1, a2, fun s' hs => ?_⟩
    by_cases e : s' = s
    · rw [e]; exact hP
    · exact a3 s' (by omega)
  · refine .inr ⟨a1, a2, a3, fun s' hs hp => ?_⟩
    by_cases e : s' = s
    · rw [e, hP] at hp; cases hp
    · exact a4 s' (by omega) hp
theorem RefI.fst {P : List Int → Bool} {n s : Nat} {b : List Int} (h : RefI P n s false b) (hP : P (pick s.testBit n) = true) : RefI P n (s + 1) true (pick s.testBit n) := by
  rcases h with ⟨a1, a2, a3⟩ | ⟨a1, _⟩
  · refine .inr ⟨rfl, pick_sub _ _, hP, fun s' hs hp => ?_⟩
    by_cases e : s' = s
    · rw [e]; unfold befB; rw [if_pos rfl]; exact lexB_irr _
    · rw [a3 s' (by omega)] at hp; cases hp
  · cases a1
theorem RefI.up {P : List Int → Bool} {n s : Nat} {b : List Int} (h : RefI P n s true b) (hP : P (pick s.testBit n) = true) (hb : befB (pick s.testBit n) b = true) : RefI P n (s + 1) true (pick s.testBit n) := by
  rcases h with ⟨a1, _⟩ | ⟨a1, a2, a3, a4⟩
  · cases a1
  · refine .inr ⟨rfl, pick_sub _ _, hP, fun s' hs hp => ?_⟩
    by_cases e : s' = s
    · rw [e]; unfold befB; rw [if_pos rfl]; exact lexB_irr _
    · have h1 := a4 s' (by omega) hp
      cases hc : befB (pick s'.testBit n) (pick s.testBit n) with
      | false => rfl
      | true => rw [befB_trans hc hb] at h1; cases h1
theorem RefI.stay {P : List Int → Bool} {n s : Nat} {b : List Int} (h : RefI P n s true b) (hb : befB (pick s.testBit n) b = false) : RefI P n (s + 1) true b := by
  rcases h with ⟨a1, _⟩ | ⟨a1, a2, a3, a4⟩
  · cases a1
  · refine .inr ⟨rfl, a2, a3, fun s' hs hp => ?_⟩
    by_cases e : s' = s
    · rw [e]; exact hb
    · exact a4 s' (by omega) hp
theorem RefI.end {P : List Int → Bool} {n : Nat} {found : Bool} {b : List Int} (h : RefI P n (2 ^ n) found b) : fstL P n = if found then some b else none := by
  rcases h with ⟨rfl, rfl, a3⟩ | ⟨rfl, a2, a3, a4⟩
  · exact none_fst fun y hy => by
      obtain ⟨s, hs, rfl⟩ := sub_pick hy
      exact a3 s hs
  · exact Best.fst ⟨a2, a3, fun y hy hp => by
      obtain ⟨s, hs, rfl⟩ := sub_pick hy
      exact a4 s hs hp⟩
def FstR (P : List Int → Bool) (n : Nat) (q : Value) (N : List HO) : Prop := (fstL P n = none ∧ q = .tuple #[.slice none 0 0, I 3]) ∨ ∃ x v, fstL P n = some x ∧ q = .tuple #[v, I 0] ∧ GotW v x N
def RBoardP (cs : List Cls) (people : Int) (q : Value) (N : List HO) : Prop := (boardE cs people ≠ 0 ∧ q = .tuple #[.slice none 0 0, I (boardE cs people)]) ∨ (boardE cs people = 0 ∧ FstR (fun x => decide (seatsL cs x ≥ people)) cs.length q N)
theorem rboard_fn (w : World) (v : Value) (cs : List Cls) (people : Int) (hs : Sl w v 7 (cat clc cs)) (hcl : cs.length ≤ 1000) :
    SX.Fn Tryd.prog 35 [v, I people] w (fun _ => False) (RBoardP cs people) := by
  obtain ⟨a, n, c, rfl⟩ := hs.shape
  have hn := hs.le clc_len (by omega)
  subst hn
  have hr := hs.rd0
  have dn : (∀ xs, detL 70 xs = none) ∧ (∀ xs, detL 71 xs = none) := ⟨fun _ => rfl, fun _ => rfl⟩
  have hclv : ∀ b : Cls, detL 31 [.agg (clc b).toArray] = some (I (if clsB b then 0 else 50)) := fun b => rfl
  unfold RBoardP
  obtain ⟨E, hE⟩ : ∃ E, boardE cs people = E := ⟨_, rfl⟩
  rw [hE]
  unfold boardE at hE
  by_cases h1 : cs.length > 10
  · have e1 : ((cs.length : Int) > 10) = True := eq_true (by omega)
    rw [if_pos h1] at hE
    subst hE
    refine walk [] [] (detL_ok _ _) Tryd.func35 rfl Tryd.ntmps35 res35 (by kernel_rfl) no_facts ?_
    simp (config := { maxSteps := 4000000 }) only [↓sx0, ↓sx1, ↓sx2, ↓sx3, ↓sx4, ↓sx5, ↓sx6, sx0, sx1, sx2, sx3, sx4, sx5, sx6, tf35, ev3_hold, sxo, sxc, sxp, sxq, sxr, sxs, sxl, sxm, Int.reduceBEq, Int.reduceBNe, Int.reduceLT, Int.reduceLE, Int.reduceEq, Int.reduceGT, Int.reduceGE, Int.reduceToNat, ↓reduceIte, List.reduceReplicate, Nat.reduceAdd, Nat.reduceSub, Nat.reduceMul, Nat.reduceLT, Nat.reduceLeDiff, Nat.reduceBEq, Nat.reduceEqDiff, e1]
    exact .inl trivial
  have e1 : ((cs.length : Int) > 10) = False := eq_false (by omega)
  rw [if_neg h1] at hE
  have hEany : cs.any badC = true → E = 50 := fun h => by rw [h, if_pos rfl] at hE; exact hE.symm
  have hEno : cs.any badC = false → people < 0 → E = 1 := fun h h3 => by rw [h, if_neg (by simp), if_pos h3] at hE; exact hE.symm
  have hEz : cs.any badC = false → ¬ people < 0 → E = 0 := fun h h3 => by rw [h, if_neg (by simp), if_neg h3] at hE; exact hE.symm
  clear hE
  obtain ⟨P, hP⟩ : ∃ P : List Int → Bool, (fun x => decide (seatsL cs x ≥ people)) = P := ⟨_, rfl⟩
  have hP1 : ∀ x, P x = decide (seatsL cs x ≥ people) := fun x => by rw [← hP]
  rw [hP]
  refine walk [] [] (detL_ok _ _) Tryd.func35 rfl Tryd.ntmps35 res35 (by kernel_rfl) no_facts ?_
  simp (config := { maxSteps := 4000000 }) only [↓sx0, ↓sx1, ↓sx2, ↓sx3, ↓sx4, ↓sx5, ↓sx6, sx0, sx1, sx2, sx3, sx4, sx5, sx6, tf35, ev3_hold, sxo, sxc, sxp, sxq, sxr, sxs, sxl, sxm, Int.reduceBEq, Int.reduceBNe, Int.reduceLT, Int.reduceLE, Int.reduceEq, Int.reduceGT, Int.reduceGE, Int.reduceToNat, ↓reduceIte, List.reduceReplicate, Nat.reduceAdd, Nat.reduceSub, Nat.reduceMul, Nat.reduceLT, Nat.reduceLeDiff, Nat.reduceBEq, Nat.reduceEqDiff, e1]
  refine loop_constH [] (HImp.refl _ _) [(4, 6), (16, 27)] (fun i : Nat => [(6, I i)]) (fun i H1 => i ≤ cs.length ∧ (cs.drop i).any badC = cs.any badC ∧ H1 = []) (fun i => cs.length - i) 0 ?_ ⟨Nat.zero_le _, rfl, rfl⟩ ?_
  · simp (config := { maxSteps := 4000000 }) only [↓sx0, ↓sx1, ↓sx2, ↓sx3, ↓sx4, ↓sx5, ↓sx6, sx0, sx1, sx2, sx3, sx4, sx5, sx6, tf35, ev3_hold, sxo, sxc, sxp, sxq, sxr, sxs, sxl, sxm, Int.reduceBEq, Int.reduceBNe, Int.reduceLT, Int.reduceLE, Int.reduceEq, Int.reduceGT, Int.reduceGE, Int.reduceToNat, ↓reduceIte, List.reduceReplicate, Nat.reduceAdd, Nat.reduceSub, Nat.reduceMul, Nat.reduceLT, Nat.reduceLeDiff, Nat.reduceBEq, Nat.reduceEqDiff]
    try simp
  rintro i H1 g1 ⟨hi, hany, rfl⟩
  by_cases hin : i = cs.length
  case neg =>
    have e7 : ((i : Int) < (cs.length : Int)) = True := eq_true (by omega)
    have e2 : wr (i + 1) = ((i + 1 : Nat) : Int) := (wrap_id (by omega)).trans (by omega)
    have hil : i < cs.length := by omega
    have hu := List.getElem?_eq_getElem hil
    obtain ⟨x, hx⟩ : ∃ x, cs[i] = x := ⟨_, rfl⟩
    rw [List.drop_eq_getElem_cons hil, List.any_cons, hx] at hany
    rw [hx] at hu
    cases hb : clsB x with
    | false =>
      have hbc : badC x = true := by unfold badC; rw [hb]; rfl
      rw [hbc] at hany
      have hE5 := hEany hany.symm
      subst hE5
      refine ⟨?_⟩
      simp (config := { maxSteps := 4000000 }) only [↓sx0, ↓sx1, ↓sx2, ↓sx3, ↓sx4, ↓sx5, ↓sx6, sx0, sx1, sx2, sx3, sx4, sx5, sx6, tf35, ev3_hold, sxo, sxc, sxp, sxq, sxr, sxs, sxl, sxm, Int.reduceBEq, Int.reduceBNe, Int.reduceLT, Int.reduceLE, Int.reduceEq, Int.reduceGT, Int.reduceGE, Int.reduceToNat, ↓reduceIte, List.reduceReplicate, Nat.reduceAdd, Nat.reduceSub, Nat.reduceMul, Nat.reduceLT, Nat.reduceLeDiff, Nat.reduceBEq, Nat.reduceEqDiff, e7]
      refine amid (at_n (hr _) clc_len (by omega) hu fun ad => ?_)
      simp (config := { maxSteps := 4000000 }) only [↓sx0, ↓sx1, ↓sx2, ↓sx3, ↓sx4, ↓sx5, ↓sx6, sx0, sx1, sx2, sx3, sx4, sx5, sx6, tf35, ev3_hold, sxo, sxc, sxp, sxq, sxr, sxs, sxl, sxm, Int.reduceBEq, Int.reduceBNe, Int.reduceLT, Int.reduceLE, Int.reduceEq, Int.reduceGT, Int.reduceGE, Int.reduceToNat, ↓reduceIte, List.reduceReplicate, Nat.reduceAdd, Nat.reduceSub, Nat.reduceMul, Nat.reduceLT, Nat.reduceLeDiff, Nat.reduceBEq, Nat.reduceEqDiff, hclv, hb]
      exact .inl trivial
    | true =>
      have hbc : badC x = false := by unfold badC; rw [hb]; rfl
      rw [hbc, Bool.false_or] at hany
      refine ⟨?_⟩
      simp (config := { maxSteps := 4000000 }) only [↓sx0, ↓sx1, ↓sx2, ↓sx3, ↓sx4, ↓sx5, ↓sx6, sx0, sx1, sx2, sx3, sx4, sx5, sx6, tf35, ev3_hold, sxo, sxc, sxp, sxq, sxr, sxs, sxl, sxm, Int.reduceBEq, Int.reduceBNe, Int.reduceLT, Int.reduceLE, Int.reduceEq, Int.reduceGT, Int.reduceGE, Int.reduceToNat, ↓reduceIte, List.reduceReplicate, Nat.reduceAdd, Nat.reduceSub, Nat.reduceMul, Nat.reduceLT, Nat.reduceLeDiff, Nat.reduceBEq, Nat.reduceEqDiff, e7]
      refine amid (at_n (hr _) clc_len (by omega) hu fun ad => ?_)
      simp (config := { maxSteps := 4000000 }) only [↓sx0, ↓sx1, ↓sx2, ↓sx3, ↓sx4, ↓sx5, ↓sx6, sx0, sx1, sx2, sx3, sx4, sx5, sx6, tf35, ev3_hold, sxo, sxc, sxp, sxq, sxr, sxs, sxl, sxm, Int.reduceBEq, Int.reduceBNe, Int.reduceLT, Int.reduceLE, Int.reduceEq, Int.reduceGT, Int.reduceGE, Int.reduceToNat, ↓reduceIte, List.reduceReplicate, Nat.reduceAdd, Nat.reduceSub, Nat.reduceMul, Nat.reduceLT, Nat.reduceLeDiff, Nat.reduceBEq, Nat.reduceEqDiff, hclv, hb, e2]
      exact ⟨i + 1, _, rfl, HImp.refl _ _, ⟨by omega, hany, rfl⟩, by omega⟩
  subst hin
  rw [List.drop_of_length_le (Nat.le_refl _), List.any_nil] at hany
  have h2 := hany.symm
  have e7 : ((cs.length : Int) < (cs.length : Int)) = False := eq_false (by omega)
  by_cases h3 : people < 0
  · have e3 : (people < 0) = True := eq_true h3
    have hE5 := hEno h2 h3
    subst hE5
    refine ⟨?_⟩
    simp (config := { maxSteps := 4000000 }) only [↓sx0, ↓sx1, ↓sx2, ↓sx3, ↓sx4, ↓sx5, ↓sx6, sx0, sx1, sx2, sx3, sx4, sx5, sx6, tf35, ev3_hold, sxo, sxc, sxp, sxq, sxr, sxs, sxl, sxm, Int.reduceBEq, Int.reduceBNe, Int.reduceLT, Int.reduceLE, Int.reduceEq, Int.reduceGT, Int.reduceGE, Int.reduceToNat, ↓reduceIte, List.reduceReplicate, Nat.reduceAdd, Nat.reduceSub, Nat.reduceMul, Nat.reduceLT, Nat.reduceLeDiff, Nat.reduceBEq, Nat.reduceEqDiff, e7, e3]
    exact .inl trivial
  have e3 : (people < 0) = False := eq_false h3
  have hE5 := hEz h2 h3
  subst hE5
  clear hEany hEno hEz
  have hg : ∀ b ∈ cs, clsB b = true := fun b hb => by
    rw [List.any_eq_false] at h2
    simpa [badC] using h2 b hb
  have hn10 : cs.length ≤ 10 := by omega
  have hpw := shl10 ⟨cs.length, by omega⟩
  simp only [] at hpw
  have hp10 : 2 ^ cs.length ≤ 1024 := Nat.le_trans (Nat.pow_le_pow_right (by decide) hn10) (by decide)
  have e9 := u64w (i := cs.length) (by omega)
  refine ⟨?_⟩
  simp (config := { maxSteps := 4000000 }) only [↓sx0, ↓sx1, ↓sx2, ↓sx3, ↓sx4, ↓sx5, ↓sx6, sx0, sx1, sx2, sx3, sx4, sx5, sx6, tf35, ev3_hold, sxo, sxc, sxp, sxq, sxr, sxs, sxl, sxm, Int.reduceBEq, Int.reduceBNe, Int.reduceLT, Int.reduceLE, Int.reduceEq, Int.reduceGT, Int.reduceGE, Int.reduceToNat, ↓reduceIte, List.reduceReplicate, Nat.reduceAdd, Nat.reduceSub, Nat.reduceMul, Nat.reduceLT, Nat.reduceLeDiff, Nat.reduceBEq, Nat.reduceEqDiff, e7, e3]
  refine loop_constH [HO.row (.slice none 0 0) 3 1 (ints [])] (HImp.nilRow _ _ _ _) [(7, 12), (30, 70)] (fun q : Nat × Bool × Option Addr × Nat × List Int => [(7, .slice q.2.2.1 q.2.2.2.2.length q.2.2.2.1), (8, .bool q.2.1), (9, I q.1)]) (fun q H1 => q.1 ≤ 2 ^ cs.length ∧ (q.2.2.1 = none → q.2.2.2.2 = []) ∧ RefI P cs.length q.1 q.2.1 q.2.2.2.2 ∧ H1 = [HO.row (.slice q.2.2.1 q.2.2.2.2.length q.2.2.2.1) 3 1 (ints q.2.2.2.2)]) (fun q => 2 ^ cs.length - q.1) (0, false, none, 0, []) ?_ ⟨Nat.zero_le _, fun _ => rfl, RefI.zero P cs.length, rfl⟩ ?_
  · simp (config := { maxSteps := 4000000 }) only [↓sx0, ↓sx1, ↓sx2, ↓sx3, ↓sx4, ↓sx5, ↓sx6, sx0, sx1, sx2, sx3, sx4, sx5, sx6, tf35, ev3_hold, sxo, sxc, sxp, sxq, sxr, sxs, sxl, sxm, Int.reduceBEq, Int.reduceBNe, Int.reduceLT, Int.reduceLE, Int.reduceEq, Int.reduceGT, Int.reduceGE, Int.reduceToNat, ↓reduceIte, List.reduceReplicate, Nat.reduceAdd, Nat.reduceSub, Nat.reduceMul, Nat.reduceLT, Nat.reduceLeDiff, Nat.reduceBEq, Nat.reduceEqDiff]
    try simp
  rintro ⟨s, found, ab, cb, b⟩ H1 g2 ⟨hs1, hnil, hI, rfl⟩
  simp only [] at hs1 hnil hI
  by_cases hsn : s = 2 ^ cs.length
  · have e4 : ((s : Int) < ((2 ^ cs.length : Nat) : Int)) = False := eq_false (by omega)
    rw [hsn] at hI
    have hend := hI.end
    cases found with
    | false =>
      refine ⟨?_⟩
      simp (config := { maxSteps := 4000000 }) only [↓sx0, ↓sx1, ↓sx2, ↓sx3, ↓sx4, ↓sx5, ↓sx6, sx0, sx1, sx2, sx3, sx4, sx5, sx6, tf35, ev3_hold, sxo, sxc, sxp, sxq, sxr, sxs, sxl, sxm, Int.reduceBEq, Int.reduceBNe, Int.reduceLT, Int.reduceLE, Int.reduceEq, Int.reduceGT, Int.reduceGE, Int.reduceToNat, ↓reduceIte, List.reduceReplicate, Nat.reduceAdd, Nat.reduceSub, Nat.reduceMul, Nat.reduceLT, Nat.reduceLeDiff, Nat.reduceBEq, Nat.reduceEqDiff, e9, hpw, e4]
      refine ⟨by omega, .inr (Or.inl ⟨hend, rfl⟩)⟩
    | true =>
      refine ⟨?_⟩
      simp (config := { maxSteps := 4000000 }) only [↓sx0, ↓sx1, ↓sx2, ↓sx3, ↓sx4, ↓sx5, ↓sx6, sx0, sx1, sx2, sx3, sx4, sx5, sx6, tf35, ev3_hold, sxo, sxc, sxp, sxq, sxr, sxs, sxl, sxm, Int.reduceBEq, Int.reduceBNe, Int.reduceLT, Int.reduceLE, Int.reduceEq, Int.reduceGT, Int.reduceGE, Int.reduceToNat, ↓reduceIte, List.reduceReplicate, Nat.reduceAdd, Nat.reduceSub, Nat.reduceMul, Nat.reduceLT, Nat.reduceLeDiff, Nat.reduceBEq, Nat.reduceEqDiff, e9, hpw, e4]
      refine ⟨by omega, .inr (Or.inr ⟨b, _, hend, rfl, ab, cb, rfl, hnil, List.mem_singleton.2 rfl⟩)⟩
  have hslt : s < 2 ^ cs.length := by omega
  have e4 : ((s : Int) < ((2 ^ cs.length : Nat) : Int)) = True := eq_true (by omega)
  have e8 : wr (s + 1) = ((s + 1 : Nat) : Int) := (wrap_id (by omega)).trans (by omega)
  have hch := fun (w' : World) => chosen_fn w' s cs.length (by omega)
  rw [pick_nat hn10 hslt] at hch
  obtain ⟨x, hx⟩ : ∃ x, pick s.testBit cs.length = x := ⟨_, rfl⟩
  have hxs : x.Sublist (idx cs.length) := by rw [← hx]; exact pick_sub _ _
  have hxl := sub_len hxs
  have hxin : ∀ i ∈ x, 0 ≤ i ∧ i < cs.length := fun i hi => idx_mem.1 (hxs.subset hi)
  have iNo := hI.no
  have iFst : found = false → _ := fun hf => by rw [hf] at hI; exact hI.fst
  have iUp : found = true → _ := fun hf => by rw [hf] at hI; exact hI.up
  have iStay : found = true → _ := fun hf => by rw [hf] at hI; exact hI.stay
  have hbl : b.length ≤ 1000 := by
    rcases hI with ⟨_, h, _⟩ | ⟨_, h, _⟩
    · rw [h]; exact Nat.zero_le _
    · have := sub_len h; omega
  rw [hx] at hch iNo iFst iUp iStay
  have hPx := hP1 x
  have bb := fun i => sumB_bound (seatAt cs) 40 (x.take i) fun y _ => seatAt_bound hg y
  have bc : ∀ i, (x.take i).length * 40 ≤ 10 * 40 := fun i => Nat.mul_le_mul_right 40 (Nat.le_trans (by rw [List.length_take]; exact Nat.min_le_right _ _) (by omega))
  obtain ⟨A, hA⟩ : ∃ A : Nat → Int, ∀ i, sumB (seatAt cs) (x.take i) = A i := ⟨_, fun _ => rfl⟩
  have hAs : ∀ i y, x[i]? = some y → A (i + 1) = A i + seatAt cs y := fun i y h => by rw [← hA, ← hA, sumB_take _ h]
  have hA0 : A 0 = 0 := by rw [← hA]; rfl
  have hAl : A x.length = seatsL cs x := by rw [← hA, List.take_length]; rfl
  simp only [hA] at bb
  rw [← hAl] at hPx
  have hbef := fun (H : List HO) (u v : Value) (w' : World) (hu : Sl w' u 1 (ints x)) (hv : Sl w' v 1 (ints b)) => before_fn w' u v x b hu hv (by omega) hbl
  refine ⟨?_⟩
  simp (config := { maxSteps := 4000000 }) only [↓sx0, ↓sx1, ↓sx2, ↓sx3, ↓sx4, ↓sx5, ↓sx6, sx0, sx1, sx2, sx3, sx4, sx5, sx6, tf35, ev3_hold, sxo, sxc, sxp, sxq, sxr, sxs, sxl, sxm, Int.reduceBEq, Int.reduceBNe, Int.reduceLT, Int.reduceLE, Int.reduceEq, Int.reduceGT, Int.reduceGE, Int.reduceToNat, ↓reduceIte, List.reduceReplicate, Nat.reduceAdd, Nat.reduceSub, Nat.reduceMul, Nat.reduceLT, Nat.reduceLeDiff, Nat.reduceBEq, Nat.reduceEqDiff, e9, hpw, e4, dn]
  refine ⟨by omega, CallOb.pureH (fun w' hp => hch w') ?_⟩
  rintro r N ⟨ax, cx, rfl, hx0, hxm⟩
  obtain ⟨HB, hHB⟩ : ∃ HB, N ++ [HO.row (.slice ab b.length cb) 3 1 (ints b)] = HB := ⟨_, rfl⟩
  have hr2 := row_rdv (w0 := ⟨w, fun _ => False⟩) (H := HB) (by rw [← hHB]; exact List.mem_append_left _ hxm) ⟨_, _, _, rfl, by rw [cat_len i1_len], fun h => by rw [hx0 h]; rfl⟩
  have hpk1 : HImp ⟨w, fun _ => False⟩ HB [HO.row (.slice ax x.length cx) 3 1 (ints x)] := by rw [← hHB]; exact HImp.pick (List.mem_append_left _ hxm)
  have hpk2 : HImp ⟨w, fun _ => False⟩ HB [HO.row (.slice ab b.length cb) 3 1 (ints b)] := by rw [← hHB]; exact HImp.app _ _ _
  have hbfc : ∀ w', Hp ⟨w, fun _ => False⟩ HB w' → SX.Fn Tryd.prog 71 [.slice ax x.length cx, .slice ab b.length cb] w' (fun _ => False) fun r N => r = .bool (befB x b) := fun w' hp => hbef HB _ _ w' (row_hp (E := 3) (by rw [← hHB]; exact List.mem_append_left _ hxm) hp) (row_hp (E := 3) (by rw [← hHB]; exact List.mem_append_right _ (List.mem_singleton.2 rfl)) hp)
  rw [hHB]
  refine ⟨?_⟩
  simp (config := { maxSteps := 4000000 }) only [↓sx0, ↓sx1, ↓sx2, ↓sx3, ↓sx4, ↓sx5, ↓sx6, sx0, sx1, sx2, sx3, sx4, sx5, sx6, tf35, ev3_hold, sxo, sxc, sxp, sxq, sxr, sxs, sxl, sxm, Int.reduceBEq, Int.reduceBNe, Int.reduceLT, Int.reduceLE, Int.reduceEq, Int.reduceGT, Int.reduceGE, Int.reduceToNat, ↓reduceIte, List.reduceReplicate, Nat.reduceAdd, Nat.reduceSub, Nat.reduceMul, Nat.reduceLT, Nat.reduceLeDiff, Nat.reduceBEq, Nat.reduceEqDiff]
  refine loop_constH HB (HImp.refl _ _) [(11, 12), (42, 57)] (fun i : Nat => [(11, I (A i)), (12, I i)]) (fun i H1 => i ≤ x.length ∧ H1 = HB) (fun i => x.length - i) 0 ?_ ⟨Nat.zero_le _, rfl⟩ ?_
  · rw [hA0]
    simp (config := { maxSteps := 4000000 }) only [↓sx0, ↓sx1, ↓sx2, ↓sx3, ↓sx4, ↓sx5, ↓sx6, sx0, sx1, sx2, sx3, sx4, sx5, sx6, tf35, ev3_hold, sxo, sxc, sxp, sxq, sxr, sxs, sxl, sxm, Int.reduceBEq, Int.reduceBNe, Int.reduceLT, Int.reduceLE, Int.reduceEq, Int.reduceGT, Int.reduceGE, Int.reduceToNat, ↓reduceIte, List.reduceReplicate, Nat.reduceAdd, Nat.reduceSub, Nat.reduceMul, Nat.reduceLT, Nat.reduceLeDiff, Nat.reduceBEq, Nat.reduceEqDiff]
    try simp
  rintro j H1 g3 ⟨hj, hH1⟩
  have hH2 := hH1.symm
  subst hH2
  by_cases hjn : j = x.length
  case neg =>
    have f7 : ((j : Int) < (x.length : Int)) = True := eq_true (by omega)
    have f2 : wr (j + 1) = ((j + 1 : Nat) : Int) := (wrap_id (by omega)).trans (by omega)
    have hjl : j < x.length := by omega
    have hu := List.getElem?_eq_getElem hjl
    obtain ⟨y, hy⟩ : ∃ y, x[j] = y := ⟨_, rfl⟩
    rw [hy] at hu
    have hyin := hxin y (by rw [← hy]; exact List.getElem_mem hjl)
    obtain ⟨y, rfl⟩ : ∃ k : Nat, y = k := ⟨y.toNat, by omega⟩
    have hyl : y < cs.length := by omega
    have hub := List.getElem?_eq_getElem hyl
    obtain ⟨z, hzz⟩ : ∃ z, cs[y] = z := ⟨_, rfl⟩
    rw [hzz] at hub
    have hsa : seatAt cs y = z.seats := by unfold seatAt; rw [Int.toNat_natCast, hub]
    have c1 := hAs j y hu
    have d0 := seatAt_bound hg y
    rw [hsa] at c1 d0
    have d1 := bb j
    have d3 := bc j
    have w3 : wr (A j + z.seats) = A (j + 1) := by rw [c1]; exact wrap_id (by omega)
    refine ⟨?_⟩
    simp (config := { maxSteps := 4000000 }) only [↓sx0, ↓sx1, ↓sx2, ↓sx3, ↓sx4, ↓sx5, ↓sx6, sx0, sx1, sx2, sx3, sx4, sx5, sx6, tf35, ev3_hold, sxo, sxc, sxp, sxq, sxr, sxs, sxl, sxm, Int.reduceBEq, Int.reduceBNe, Int.reduceLT, Int.reduceLE, Int.reduceEq, Int.reduceGT, Int.reduceGE, Int.reduceToNat, ↓reduceIte, List.reduceReplicate, Nat.reduceAdd, Nat.reduceSub, Nat.reduceMul, Nat.reduceLT, Nat.reduceLeDiff, Nat.reduceBEq, Nat.reduceEqDiff, f7]
    refine amid (at_1 hr2 i1_len hu rfl fun ad => ?_)
    simp (config := { maxSteps := 4000000 }) only [↓sx0, ↓sx1, ↓sx2, ↓sx3, ↓sx4, ↓sx5, ↓sx6, sx0, sx1, sx2, sx3, sx4, sx5, sx6, tf35, ev3_hold, sxo, sxc, sxp, sxq, sxr, sxs, sxl, sxm, Int.reduceBEq, Int.reduceBNe, Int.reduceLT, Int.reduceLE, Int.reduceEq, Int.reduceGT, Int.reduceGE, Int.reduceToNat, ↓reduceIte, List.reduceReplicate, Nat.reduceAdd, Nat.reduceSub, Nat.reduceMul, Nat.reduceLT, Nat.reduceLeDiff, Nat.reduceBEq, Nat.reduceEqDiff]
    refine at_f (hr _) clc_len hub (o := 5) (x := I z.seats) rfl fun ad2 => ?_
    simp (config := { maxSteps := 4000000 }) only [↓sx0, ↓sx1, ↓sx2, ↓sx3, ↓sx4, ↓sx5, ↓sx6, sx0, sx1, sx2, sx3, sx4, sx5, sx6, tf35, ev3_hold, sxo, sxc, sxp, sxq, sxr, sxs, sxl, sxm, Int.reduceBEq, Int.reduceBNe, Int.reduceLT, Int.reduceLE, Int.reduceEq, Int.reduceGT, Int.reduceGE, Int.reduceToNat, ↓reduceIte, List.reduceReplicate, Nat.reduceAdd, Nat.reduceSub, Nat.reduceMul, Nat.reduceLT, Nat.reduceLeDiff, Nat.reduceBEq, Nat.reduceEqDiff, w3, f2]
    exact ⟨j + 1, _, ⟨rfl, rfl⟩, HImp.refl _ _, ⟨by omega, rfl⟩, by omega⟩
  subst hjn
  have f7 : ((x.length : Int) < (x.length : Int)) = False := eq_false (by omega)
  by_cases hge : A x.length ≥ people
  case neg =>
    have f9 : (A x.length ≥ people) = False := eq_false hge
    rw [decide_eq_false hge] at hPx
    refine ⟨?_⟩
    simp (config := { maxSteps := 4000000 }) only [↓sx0, ↓sx1, ↓sx2, ↓sx3, ↓sx4, ↓sx5, ↓sx6, sx0, sx1, sx2, sx3, sx4, sx5, sx6, tf35, ev3_hold, sxo, sxc, sxp, sxq, sxr, sxs, sxl, sxm, Int.reduceBEq, Int.reduceBNe, Int.reduceLT, Int.reduceLE, Int.reduceEq, Int.reduceGT, Int.reduceGE, Int.reduceToNat, ↓reduceIte, List.reduceReplicate, Nat.reduceAdd, Nat.reduceSub, Nat.reduceMul, Nat.reduceLT, Nat.reduceLeDiff, Nat.reduceBEq, Nat.reduceEqDiff, f7, f9, e8]
    exact ⟨(s + 1, found, ab, cb, b), _, ⟨rfl, rfl, rfl⟩, hpk2, ⟨by simp only []; omega, hnil, iNo hPx, rfl⟩, by simp only []; omega⟩
  have f9 : (A x.length ≥ people) = True := eq_true hge
  rw [decide_eq_true hge] at hPx
  cases found with
  | false =>
    refine ⟨?_⟩
    simp (config := { maxSteps := 4000000 }) only [↓sx0, ↓sx1, ↓sx2, ↓sx3, ↓sx4, ↓sx5, ↓sx6, sx0, sx1, sx2, sx3, sx4, sx5, sx6, tf35, ev3_hold, sxo, sxc, sxp, sxq, sxr, sxs, sxl, sxm, Int.reduceBEq, Int.reduceBNe, Int.reduceLT, Int.reduceLE, Int.reduceEq, Int.reduceGT, Int.reduceGE, Int.reduceToNat, ↓reduceIte, List.reduceReplicate, Nat.reduceAdd, Nat.reduceSub, Nat.reduceMul, Nat.reduceLT, Nat.reduceLeDiff, Nat.reduceBEq, Nat.reduceEqDiff, f7, f9, e8]
    exact ⟨(s + 1, true, ax, cx, x), _, ⟨rfl, rfl, rfl⟩, hpk1, ⟨by simp only []; omega, hx0, iFst rfl hPx, rfl⟩, by simp only []; omega⟩
  | true =>
    cases hbb : befB x b with
    | true =>
      rw [hbb] at hbfc
      refine ⟨?_⟩
      simp (config := { maxSteps := 4000000 }) only [↓sx0, ↓sx1, ↓sx2, ↓sx3, ↓sx4, ↓sx5, ↓sx6, sx0, sx1, sx2, sx3, sx4, sx5, sx6, tf35, ev3_hold, sxo, sxc, sxp, sxq, sxr, sxs, sxl, sxm, Int.reduceBEq, Int.reduceBNe, Int.reduceLT, Int.reduceLE, Int.reduceEq, Int.reduceGT, Int.reduceGE, Int.reduceToNat, ↓reduceIte, List.reduceReplicate, Nat.reduceAdd, Nat.reduceSub, Nat.reduceMul, Nat.reduceLT, Nat.reduceLeDiff, Nat.reduceBEq, Nat.reduceEqDiff, f7, f9, e8, dn]
      refine CallOb.pureH (fun w' hp => hbfc w' hp) ?_
      rintro r N2 rfl
      refine ⟨?_⟩
      simp (config := { maxSteps := 4000000 }) only [↓sx0, ↓sx1, ↓sx2, ↓sx3, ↓sx4, ↓sx5, ↓sx6, sx0, sx1, sx2, sx3, sx4, sx5, sx6, tf35, ev3_hold, sxo, sxc, sxp, sxq, sxr, sxs, sxl, sxm, Int.reduceBEq, Int.reduceBNe, Int.reduceLT, Int.reduceLE, Int.reduceEq, Int.reduceGT, Int.reduceGE, Int.reduceToNat, ↓reduceIte, List.reduceReplicate, Nat.reduceAdd, Nat.reduceSub, Nat.reduceMul, Nat.reduceLT, Nat.reduceLeDiff, Nat.reduceBEq, Nat.reduceEqDiff, e8]
      exact ⟨(s + 1, true, ax, cx, x), _, ⟨rfl, rfl, rfl⟩, (HImp.app _ _ _).trans hpk1, ⟨by simp only []; omega, hx0, iUp rfl hPx hbb, rfl⟩, by simp only []; omega⟩
    | false =>
      rw [hbb] at hbfc
      refine ⟨?_⟩
      simp (config := { maxSteps := 4000000 }) only [↓sx0, ↓sx1, ↓sx2, ↓sx3, ↓sx4, ↓sx5, ↓sx6, sx0, sx1, sx2, sx3, sx4, sx5, sx6, tf35, ev3_hold, sxo, sxc, sxp, sxq, sxr, sxs, sxl, sxm, Int.reduceBEq, Int.reduceBNe, Int.reduceLT, Int.reduceLE, Int.reduceEq, Int.reduceGT, Int.reduceGE, Int.reduceToNat, ↓reduceIte, List.reduceReplicate, Nat.reduceAdd, Nat.reduceSub, Nat.reduceMul, Nat.reduceLT, Nat.reduceLeDiff, Nat.reduceBEq, Nat.reduceEqDiff, f7, f9, e8, dn]
      refine CallOb.pureH (fun w' hp => hbfc w' hp) ?_
      rintro r N2 rfl
      refine ⟨?_⟩
      simp (config := { maxSteps := 4000000 }) only [↓sx0, ↓sx1, ↓sx2, ↓sx3, ↓sx4, ↓sx5, ↓sx6, sx0, sx1, sx2, sx3, sx4, sx5, sx6, tf35, ev3_hold, sxo, sxc, sxp, sxq, sxr, sxs, sxl, sxm, Int.reduceBEq, Int.reduceBNe, Int.reduceLT, Int.reduceLE, Int.reduceEq, Int.reduceGT, Int.reduceGE, Int.reduceToNat, ↓reduceIte, List.reduceReplicate, Nat.reduceAdd, Nat.reduceSub, Nat.reduceMul, Nat.reduceLT, Nat.reduceLeDiff, Nat.reduceBEq, Nat.reduceEqDiff, e8]
      exact ⟨(s + 1, true, ab, cb, b), _, ⟨rfl, rfl, rfl⟩, (HImp.app _ _ _).trans hpk2, ⟨by simp only []; omega, hnil, iStay rfl hbb, rfl⟩, by simp only []; omega⟩
end Go.Proofs.YtcnlbnccbnapbaaDoor

namespace Go.Proofs.YtcnlbnccbnapbaaDoor
open Go.RowKit Go.SX
set_option maxRecDepth 10000
set_option maxHeartbeats 0
set_option linter.unusedSimpArgs false
set_option linter.unusedVariables false
theorem sum_pick {f : Int → Int} (p : Nat → Bool) (n : Nat) : sumB f (pick p n) + sumB f (pick (fun i => !p i) n) = sumB f (idx n) := by
  induction n with
  | zero => rfl
  | succ n ih =>
    rw [pick_succ, pick_succ, idx_succ, sumB_append, sumB_append, sumB_append]
    cases p n <;> simp [sumB] <;> omega
theorem sum_idx (l : List (Int × Int × Int)) : ∀ n, n ≤ l.length → sumB (heelAt l) (idx n) = sumB highM (l.take n) := by
  intro n
  induction n with
  | zero => intro _; rfl
  | succ n ih =>
    intro h
    have hu : l[n]? = some l[n] := List.getElem?_eq_getElem (by omega)
    rw [idx_succ, sumB_append, ih (by omega), sumB_take _ hu]
    have : heelAt l n = highM l[n] := by unfold heelAt; rw [Int.toNat_natCast, hu]
    simp [sumB, this]
theorem heels_all (l : List (Int × Int × Int)) : heelsL l (idx l.length) = sumB highM l := by
  have := sum_idx l l.length (Nat.le_refl _)
  rwa [List.take_length] at this
theorem heels_rest (l : List (Int × Int × Int)) {s : Nat} (hs : s < 2 ^ l.length) : heelsL l (pick (2 ^ l.length - 1 - s).testBit l.length) = sumB highM l - heelsL l (pick s.testBit l.length) := by
  have h1 := sum_pick (f := heelAt l) s.testBit l.length
  have h2 := heels_all l
  unfold heelsL at h2 ⊢
  have h3 : pick (2 ^ l.length - 1 - s).testBit l.length = pick (fun i => !s.testBit i) l.length := pick_congr fun i hi => by
    rw [show 2 ^ l.length - 1 - s = 2 ^ l.length - (s + 1) by omega, Nat.testBit_two_pow_sub_succ hs]
    simp [hi]
  rw [h3]
  omega
theorem shed_some {b : Cls} {l : List (Int × Int × Int)} (h : loadE b l = 0) : ∃ x, fstL (shedB b l) l.length = some x := by
  cases hf : fstL (shedB b l) l.length with
  | some x => exact ⟨x, rfl⟩
  | none =>
    have h1 := fst_none hf (idx l.length) (List.Sublist.refl _)
    unfold shedB at h1
    rw [heels_all, decide_eq_false_iff_not] at h1
    have := ((clsB_iff b).1 (loadE_zero h).1).2.2.2.2.2.2
    omega
def RShedP (b : Cls) (l : List (Int × Int × Int)) (q : Value) (N : List HO) : Prop := (loadE b l ≠ 0 ∧ q = .tuple #[.slice none 0 0, I (loadE b l)]) ∨ (loadE b l = 0 ∧ ∃ x v, fstL (shedB b l) l.length = some x ∧ q = .tuple #[v, I 0] ∧ GotW v x N)
def pl39_11 : Plan := (ones [0, 1, 2, 3, 4, 5, 8] (.ld 9 (ones [6, 7, 10, 11, 12, 13, 14, 15, 16, 17, 18, 19] .fin)))
def pl39 : List (Nat × Plan) := [(11, pl39_11)]
theorem pl39_lk : (lkO 11 pl39 = some pl39_11) := rfl
theorem rshed_fn (w : World) (v : Value) (b : Cls) (l : List (Int × Int × Int)) (hs : Sl w v 3 (cat ldc l)) :
    SX.Fn Tryd.prog 39 [clv b, v] w (fun _ => False) (RShedP b l) := by
  obtain ⟨a, n, c, rfl⟩ := hs.shape
  have hn := hs.le ldc_len (by omega)
  subst hn
  have dn : ∀ (g : Nat) (xs : List Value), det0 g xs = none := fun _ _ => rfl
  have hlo := fun (H : List HO) w' (hp : Hp ⟨w, fun _ => False⟩ H w') => rloads_fn w' _ b l (hs.hp (fun _ _ => id) hp)
  unfold RShedP
  unfold clv
  unfold clv at hlo
  by_cases hE : loadE b l = 0
  case neg =>
    have e1 : (loadE b l = 0) = False := eq_false hE
    refine walk [] pl39 (det0_ok _ _) Tryd.func39 rfl Tryd.ntmps39 res39 (by kernel_rfl) no_facts ?_
    simp (config := { maxSteps := 4000000 }) only [↓sx0, ↓sx1, ↓sx2, ↓sx3, ↓sx4, ↓sx5, ↓sx6, sx0, sx1, sx2, sx3, sx4, sx5, sx6, tf39, ev3_hold, sxo, sxc, sxp, sxq, sxr, sxs, sxl, sxm, Int.reduceBEq, Int.reduceBNe, Int.reduceLT, Int.reduceLE, Int.reduceEq, Int.reduceGT, Int.reduceGE, Int.reduceToNat, ↓reduceIte, List.reduceReplicate, Nat.reduceAdd, Nat.reduceSub, Nat.reduceMul, Nat.reduceLT, Nat.reduceLeDiff, Nat.reduceBEq, Nat.reduceEqDiff, dn]
    refine CallOb.pureH (fun w' hp => hlo _ w' hp) ?_
    rintro r N rfl
    refine ⟨?_⟩
    simp (config := { maxSteps := 4000000 }) only [↓sx0, ↓sx1, ↓sx2, ↓sx3, ↓sx4, ↓sx5, ↓sx6, sx0, sx1, sx2, sx3, sx4, sx5, sx6, tf39, ev3_hold, sxo, sxc, sxp, sxq, sxr, sxs, sxl, sxm, Int.reduceBEq, Int.reduceBNe, Int.reduceLT, Int.reduceLE, Int.reduceEq, Int.reduceGT, Int.reduceGE, Int.reduceToNat, ↓reduceIte, List.reduceReplicate, Nat.reduceAdd, Nat.reduceSub, Nat.reduceMul, Nat.reduceLT, Nat.reduceLeDiff, Nat.reduceBEq, Nat.reduceEqDiff, e1]
    exact .inl trivial
  have hz := loadE_zero hE
  have hg := hz.2.2
  have hn10 := hz.2.1
  obtain ⟨z, hsome⟩ := shed_some hE
  rw [hE] at hlo ⊢
  have hheel := fun s hs => heels_rest l (s := s) hs
  have hpw := shl10 ⟨l.length, by omega⟩
  simp only [] at hpw
  have hp10 : 2 ^ l.length ≤ 1024 := Nat.le_trans (Nat.pow_le_pow_right (by decide) hn10) (by decide)
  have hp0 : 0 < 2 ^ l.length := Nat.pow_pos (by decide)
  have hpm : wr (((2 ^ l.length : Nat) : Int) - 1) = ((2 ^ l.length - 1 : Nat) : Int) := (wrap_id (by omega)).trans (by omega)
  have e9 := u64w (i := l.length) (by omega)
  obtain ⟨P, hP⟩ : ∃ P : List Int → Bool, shedB b l = P := ⟨_, rfl⟩
  have hP1 : ∀ x, P x = decide (sumB highM l - heelsL l x ≤ b.moment) := fun x => by rw [← hP]; rfl
  rw [hP] at hsome ⊢
  refine walk [] pl39 (det0_ok _ _) Tryd.func39 rfl Tryd.ntmps39 res39 (by kernel_rfl) no_facts ?_
  simp (config := { maxSteps := 4000000 }) only [↓sx0, ↓sx1, ↓sx2, ↓sx3, ↓sx4, ↓sx5, ↓sx6, sx0, sx1, sx2, sx3, sx4, sx5, sx6, tf39, ev3_hold, sxo, sxc, sxp, sxq, sxr, sxs, sxl, sxm, Int.reduceBEq, Int.reduceBNe, Int.reduceLT, Int.reduceLE, Int.reduceEq, Int.reduceGT, Int.reduceGE, Int.reduceToNat, ↓reduceIte, List.reduceReplicate, Nat.reduceAdd, Nat.reduceSub, Nat.reduceMul, Nat.reduceLT, Nat.reduceLeDiff, Nat.reduceBEq, Nat.reduceEqDiff, dn]
  refine CallOb.pureH (fun w' hp => hlo _ w' hp) ?_
  rintro r N rfl
  refine ⟨?_⟩
  simp (config := { maxSteps := 4000000 }) only [↓sx0, ↓sx1, ↓sx2, ↓sx3, ↓sx4, ↓sx5, ↓sx6, sx0, sx1, sx2, sx3, sx4, sx5, sx6, tf39, ev3_hold, sxo, sxc, sxp, sxq, sxr, sxs, sxl, sxm, Int.reduceBEq, Int.reduceBNe, Int.reduceLT, Int.reduceLE, Int.reduceEq, Int.reduceGT, Int.reduceGE, Int.reduceToNat, ↓reduceIte, List.reduceReplicate, Nat.reduceAdd, Nat.reduceSub, Nat.reduceMul, Nat.reduceLT, Nat.reduceLeDiff, Nat.reduceBEq, Nat.reduceEqDiff, e9, hpw, hpm]
  refine ⟨by omega, ?_⟩
  refine loop_constH [HO.row (.slice none 0 0) 3 1 (ints [])] ((HImp.nil _ _).trans (HImp.nilRow _ _ _ _)) [(7, 8), (10, 11), (23, 52)] (fun q : Nat × Bool × Option Addr × Nat × List Int => [(7, .slice q.2.2.1 q.2.2.2.2.length q.2.2.2.1), (8, .bool q.2.1), (10, I q.1)]) (fun q H1 => q.1 ≤ 2 ^ l.length ∧ (q.2.2.1 = none → q.2.2.2.2 = []) ∧ RefI P l.length q.1 q.2.1 q.2.2.2.2 ∧ H1 = [HO.row (.slice q.2.2.1 q.2.2.2.2.length q.2.2.2.1) 3 1 (ints q.2.2.2.2)]) (fun q => 2 ^ l.length - q.1) (0, false, none, 0, []) ?_ ⟨Nat.zero_le _, fun _ => rfl, RefI.zero P l.length, rfl⟩ ?_
  · simp (config := { maxSteps := 4000000 }) only [↓sx0, ↓sx1, ↓sx2, ↓sx3, ↓sx4, ↓sx5, ↓sx6, sx0, sx1, sx2, sx3, sx4, sx5, sx6, tf39, ev3_hold, sxo, sxc, sxp, sxq, sxr, sxs, sxl, sxm, Int.reduceBEq, Int.reduceBNe, Int.reduceLT, Int.reduceLE, Int.reduceEq, Int.reduceGT, Int.reduceGE, Int.reduceToNat, ↓reduceIte, List.reduceReplicate, Nat.reduceAdd, Nat.reduceSub, Nat.reduceMul, Nat.reduceLT, Nat.reduceLeDiff, Nat.reduceBEq, Nat.reduceEqDiff]
    try simp
  rintro ⟨s, found, ab, cb, bb⟩ H1 g2 ⟨hs1, hnil, hI, rfl⟩
  simp only [] at hs1 hnil hI
  by_cases hsn : s = 2 ^ l.length
  · have e4 : ((s : Int) ≤ ((2 ^ l.length - 1 : Nat) : Int)) = False := eq_false (by omega)
    rw [hsn] at hI
    have hend := hI.end
    rw [hsome] at hend
    cases found with
    | false => cases hend
    | true =>
      refine ⟨?_⟩
      simp (config := { maxSteps := 4000000 }) only [↓sx0, ↓sx1, ↓sx2, ↓sx3, ↓sx4, ↓sx5, ↓sx6, sx0, sx1, sx2, sx3, sx4, sx5, sx6, tf39, ev3_hold, sxo, sxc, sxp, sxq, sxr, sxs, sxl, sxm, Int.reduceBEq, Int.reduceBNe, Int.reduceLT, Int.reduceLE, Int.reduceEq, Int.reduceGT, Int.reduceGE, Int.reduceToNat, ↓reduceIte, List.reduceReplicate, Nat.reduceAdd, Nat.reduceSub, Nat.reduceMul, Nat.reduceLT, Nat.reduceLeDiff, Nat.reduceBEq, Nat.reduceEqDiff, e4]
      exact .inr ⟨bb, _, by rw [hsome, hend]; rfl, rfl, ab, cb, rfl, hnil, List.mem_singleton.2 rfl⟩
  have hslt : s < 2 ^ l.length := by omega
  have e4 : ((s : Int) ≤ ((2 ^ l.length - 1 : Nat) : Int)) = True := eq_true (by omega)
  have e8 : wr (s + 1) = ((s + 1 : Nat) : Int) := (wrap_id (by omega)).trans (by omega)
  have e5 : wr (((2 ^ l.length - 1 : Nat) : Int) - s) = ((2 ^ l.length - 1 - s : Nat) : Int) := (wrap_id (by omega)).trans (by omega)
  have hch := fun (w' : World) => chosen_fn w' s l.length (by omega)
  have hch2 := fun (w' : World) => chosen_fn w' ((2 ^ l.length - 1 - s : Nat) : Int) l.length (by omega)
  rw [pick_nat hn10 hslt] at hch
  rw [pick_nat hn10 (by omega)] at hch2
  have hho := hheel s hslt
  obtain ⟨x, hx⟩ : ∃ x, pick s.testBit l.length = x := ⟨_, rfl⟩
  obtain ⟨y, hy⟩ : ∃ y, pick (2 ^ l.length - 1 - s).testBit l.length = y := ⟨_, rfl⟩
  have hxs : x.Sublist (idx l.length) := by rw [← hx]; exact pick_sub _ _
  have hys : y.Sublist (idx l.length) := by rw [← hy]; exact pick_sub _ _
  have hxl := sub_len hxs
  have hyl := sub_len hys
  have hyin : ∀ i ∈ y, 0 ≤ i ∧ i < l.length := fun i hi => idx_mem.1 (hys.subset hi)
  have iNo := hI.no
  have iFst : found = false → _ := fun hf => by rw [hf] at hI; exact hI.fst
  have iUp : found = true → _ := fun hf => by rw [hf] at hI; exact hI.up
  have iStay : found = true → _ := fun hf => by rw [hf] at hI; exact hI.stay
  have hbl : bb.length ≤ 1000 := by
    rcases hI with ⟨_, h, _⟩ | ⟨_, h, _⟩
    · rw [h]; exact Nat.zero_le _
    · have := sub_len h; omega
  rw [hx] at hch iNo iFst iUp iStay hho
  rw [hy] at hch2 hho
  have hPx := hP1 x
  rw [← hho] at hPx
  have hhe := fun (w' : World) (hp : Sl w' (.slice a l.length c) 3 (cat ldc l)) (u : Value) (hu : Sl w' u 1 (ints y)) => rheels_fn w' _ u l y hp hu hg hyin (by omega) hn10
  obtain ⟨S, hS⟩ : ∃ S, heelsL l y = S := ⟨_, rfl⟩
  rw [hS] at hPx hhe
  have hbef := fun (u v : Value) (w' : World) (hu : Sl w' u 1 (ints x)) (hv : Sl w' v 1 (ints bb)) => before_fn w' u v x bb hu hv (by omega) hbl
  refine ⟨?_⟩
  simp (config := { maxSteps := 4000000 }) only [↓sx0, ↓sx1, ↓sx2, ↓sx3, ↓sx4, ↓sx5, ↓sx6, sx0, sx1, sx2, sx3, sx4, sx5, sx6, tf39, ev3_hold, sxo, sxc, sxp, sxq, sxr, sxs, sxl, sxm, Int.reduceBEq, Int.reduceBNe, Int.reduceLT, Int.reduceLE, Int.reduceEq, Int.reduceGT, Int.reduceGE, Int.reduceToNat, ↓reduceIte, List.reduceReplicate, Nat.reduceAdd, Nat.reduceSub, Nat.reduceMul, Nat.reduceLT, Nat.reduceLeDiff, Nat.reduceBEq, Nat.reduceEqDiff, e4, dn]
  refine CallOb.pureH (fun w' hp => hch w') ?_
  rintro r N ⟨ax, cx, rfl, hx0, hxm⟩
  obtain ⟨HB, hHB⟩ : ∃ HB, N ++ [HO.row (.slice ab bb.length cb) 3 1 (ints bb)] = HB := ⟨_, rfl⟩
  have hpk1 : HImp ⟨w, fun _ => False⟩ HB [HO.row (.slice ax x.length cx) 3 1 (ints x)] := by rw [← hHB]; exact HImp.pick (List.mem_append_left _ hxm)
  have hpk2 : HImp ⟨w, fun _ => False⟩ HB [HO.row (.slice ab bb.length cb) 3 1 (ints bb)] := by rw [← hHB]; exact HImp.app _ _ _
  have hm1 : HO.row (.slice ax x.length cx) 3 1 (ints x) ∈ HB := by rw [← hHB]; exact List.mem_append_left _ hxm
  have hm2 : HO.row (.slice ab bb.length cb) 3 1 (ints bb) ∈ HB := by rw [← hHB]; exact List.mem_append_right _ (List.mem_singleton.2 rfl)
  rw [hHB]
  refine ⟨?_⟩
  simp (config := { maxSteps := 4000000 }) only [↓sx0, ↓sx1, ↓sx2, ↓sx3, ↓sx4, ↓sx5, ↓sx6, sx0, sx1, sx2, sx3, sx4, sx5, sx6, tf39, ev3_hold, sxo, sxc, sxp, sxq, sxr, sxs, sxl, sxm, Int.reduceBEq, Int.reduceBNe, Int.reduceLT, Int.reduceLE, Int.reduceEq, Int.reduceGT, Int.reduceGE, Int.reduceToNat, ↓reduceIte, List.reduceReplicate, Nat.reduceAdd, Nat.reduceSub, Nat.reduceMul, Nat.reduceLT, Nat.reduceLeDiff, Nat.reduceBEq, Nat.reduceEqDiff, e5, dn, pl39_lk, pl39_11]
  refine CallOb.pureH (fun w' hp => hch2 w') ?_
  rintro r N2 ⟨ay, cy, rfl, hy0, hym⟩
  refine ⟨?_⟩
  simp (config := { maxSteps := 4000000 }) only [↓sx0, ↓sx1, ↓sx2, ↓sx3, ↓sx4, ↓sx5, ↓sx6, sx0, sx1, sx2, sx3, sx4, sx5, sx6, tf39, ev3_hold, sxo, sxc, sxp, sxq, sxr, sxs, sxl, sxm, Int.reduceBEq, Int.reduceBNe, Int.reduceLT, Int.reduceLE, Int.reduceEq, Int.reduceGT, Int.reduceGE, Int.reduceToNat, ↓reduceIte, List.reduceReplicate, Nat.reduceAdd, Nat.reduceSub, Nat.reduceMul, Nat.reduceLT, Nat.reduceLeDiff, Nat.reduceBEq, Nat.reduceEqDiff, dn, pl39_lk, pl39_11]
  refine CallOb.pureH (fun w' hp => hhe w' (hs.hp (fun _ _ => id) hp) _ (row_hp (E := 3) (List.mem_append_left _ hym) hp)) ?_
  rintro r N3 rfl
  by_cases hge : S ≤ b.moment
  case neg =>
    have f9 : (S ≤ b.moment) = False := eq_false hge
    rw [decide_eq_false hge] at hPx
    refine ⟨?_⟩
    simp (config := { maxSteps := 4000000 }) only [↓sx0, ↓sx1, ↓sx2, ↓sx3, ↓sx4, ↓sx5, ↓sx6, sx0, sx1, sx2, sx3, sx4, sx5, sx6, tf39, ev3_hold, sxo, sxc, sxp, sxq, sxr, sxs, sxl, sxm, Int.reduceBEq, Int.reduceBNe, Int.reduceLT, Int.reduceLE, Int.reduceEq, Int.reduceGT, Int.reduceGE, Int.reduceToNat, ↓reduceIte, List.reduceReplicate, Nat.reduceAdd, Nat.reduceSub, Nat.reduceMul, Nat.reduceLT, Nat.reduceLeDiff, Nat.reduceBEq, Nat.reduceEqDiff, f9, e8, pl39_lk, pl39_11]
    exact ⟨(s + 1, found, ab, cb, bb), _, ⟨rfl, rfl, rfl⟩, (HImp.app _ _ _).trans ((HImp.app _ _ _).trans hpk2), ⟨by simp only []; omega, hnil, iNo hPx, rfl⟩, by simp only []; omega⟩
  have f9 : (S ≤ b.moment) = True := eq_true hge
  rw [decide_eq_true hge] at hPx
  cases found with
  | false =>
    refine ⟨?_⟩
    simp (config := { maxSteps := 4000000 }) only [↓sx0, ↓sx1, ↓sx2, ↓sx3, ↓sx4, ↓sx5, ↓sx6, sx0, sx1, sx2, sx3, sx4, sx5, sx6, tf39, ev3_hold, sxo, sxc, sxp, sxq, sxr, sxs, sxl, sxm, Int.reduceBEq, Int.reduceBNe, Int.reduceLT, Int.reduceLE, Int.reduceEq, Int.reduceGT, Int.reduceGE, Int.reduceToNat, ↓reduceIte, List.reduceReplicate, Nat.reduceAdd, Nat.reduceSub, Nat.reduceMul, Nat.reduceLT, Nat.reduceLeDiff, Nat.reduceBEq, Nat.reduceEqDiff, f9, e8, pl39_lk, pl39_11]
    exact ⟨(s + 1, true, ax, cx, x), _, ⟨rfl, rfl, rfl⟩, (HImp.app _ _ _).trans ((HImp.app _ _ _).trans hpk1), ⟨by simp only []; omega, hx0, iFst rfl hPx, rfl⟩, by simp only []; omega⟩
  | true =>
    cases hbb : befB x bb with
    | true =>
      rw [hbb] at hbef
      refine ⟨?_⟩
      simp (config := { maxSteps := 4000000 }) only [↓sx0, ↓sx1, ↓sx2, ↓sx3, ↓sx4, ↓sx5, ↓sx6, sx0, sx1, sx2, sx3, sx4, sx5, sx6, tf39, ev3_hold, sxo, sxc, sxp, sxq, sxr, sxs, sxl, sxm, Int.reduceBEq, Int.reduceBNe, Int.reduceLT, Int.reduceLE, Int.reduceEq, Int.reduceGT, Int.reduceGE, Int.reduceToNat, ↓reduceIte, List.reduceReplicate, Nat.reduceAdd, Nat.reduceSub, Nat.reduceMul, Nat.reduceLT, Nat.reduceLeDiff, Nat.reduceBEq, Nat.reduceEqDiff, f9, e8, dn, pl39_lk, pl39_11]
      refine CallOb.pureH (fun w' hp => hbef _ _ w' (row_hp (E := 3) (List.mem_append_right _ (List.mem_append_right _ hm1)) hp) (row_hp (E := 3) (List.mem_append_right _ (List.mem_append_right _ hm2)) hp)) ?_
      rintro r N4 rfl
      refine ⟨?_⟩
      simp (config := { maxSteps := 4000000 }) only [↓sx0, ↓sx1, ↓sx2, ↓sx3, ↓sx4, ↓sx5, ↓sx6, sx0, sx1, sx2, sx3, sx4, sx5, sx6, tf39, ev3_hold, sxo, sxc, sxp, sxq, sxr, sxs, sxl, sxm, Int.reduceBEq, Int.reduceBNe, Int.reduceLT, Int.reduceLE, Int.reduceEq, Int.reduceGT, Int.reduceGE, Int.reduceToNat, ↓reduceIte, List.reduceReplicate, Nat.reduceAdd, Nat.reduceSub, Nat.reduceMul, Nat.reduceLT, Nat.reduceLeDiff, Nat.reduceBEq, Nat.reduceEqDiff, e8, pl39_lk, pl39_11]
      exact ⟨(s + 1, true, ax, cx, x), _, ⟨rfl, rfl, rfl⟩, (HImp.app _ _ _).trans ((HImp.app _ _ _).trans ((HImp.app _ _ _).trans hpk1)), ⟨by simp only []; omega, hx0, iUp rfl hPx hbb, rfl⟩, by simp only []; omega⟩
    | false =>
      rw [hbb] at hbef
      refine ⟨?_⟩
      simp (config := { maxSteps := 4000000 }) only [↓sx0, ↓sx1, ↓sx2, ↓sx3, ↓sx4, ↓sx5, ↓sx6, sx0, sx1, sx2, sx3, sx4, sx5, sx6, tf39, ev3_hold, sxo, sxc, sxp, sxq, sxr, sxs, sxl, sxm, Int.reduceBEq, Int.reduceBNe, Int.reduceLT, Int.reduceLE, Int.reduceEq, Int.reduceGT, Int.reduceGE, Int.reduceToNat, ↓reduceIte, List.reduceReplicate, Nat.reduceAdd, Nat.reduceSub, Nat.reduceMul, Nat.reduceLT, Nat.reduceLeDiff, Nat.reduceBEq, Nat.reduceEqDiff, f9, e8, dn, pl39_lk, pl39_11]
      refine CallOb.pureH (fun w' hp => hbef _ _ w' (row_hp (E := 3) (List.mem_append_right _ (List.mem_append_right _ hm1)) hp) (row_hp (E := 3) (List.mem_append_right _ (List.mem_append_right _ hm2)) hp)) ?_
      rintro r N4 rfl
      refine ⟨?_⟩
      simp (config := { maxSteps := 4000000 }) only [↓sx0, ↓sx1, ↓sx2, ↓sx3, ↓sx4, ↓sx5, ↓sx6, sx0, sx1, sx2, sx3, sx4, sx5, sx6, tf39, ev3_hold, sxo, sxc, sxp, sxq, sxr, sxs, sxl, sxm, Int.reduceBEq, Int.reduceBNe, Int.reduceLT, Int.reduceLE, Int.reduceEq, Int.reduceGT, Int.reduceGE, Int.reduceToNat, ↓reduceIte, List.reduceReplicate, Nat.reduceAdd, Nat.reduceSub, Nat.reduceMul, Nat.reduceLT, Nat.reduceLeDiff, Nat.reduceBEq, Nat.reduceEqDiff, e8, pl39_lk, pl39_11]
      exact ⟨(s + 1, true, ab, cb, bb), _, ⟨rfl, rfl, rfl⟩, (HImp.app _ _ _).trans ((HImp.app _ _ _).trans ((HImp.app _ _ _).trans hpk2)), ⟨by simp only []; omega, hnil, iStay rfl hbb, rfl⟩, by simp only []; omega⟩
end Go.Proofs.YtcnlbnccbnapbaaDoor

