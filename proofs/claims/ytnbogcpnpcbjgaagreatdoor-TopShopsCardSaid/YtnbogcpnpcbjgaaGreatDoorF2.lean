/- Parts of a proof: the symbolic walk and what it shows of single functions. -/
import Derived.Test.YtnbogcpnpcbjgaaGreatDoorF1
import Derived.Test.YtnbogcpnpcbjgaaGreatDoorX5
set_option linter.all false
namespace Go.Proofs.YtnbogcpnpcbjgaaGreatDoor
open Go.RowKit Go.SX
set_option maxRecDepth 10000
set_option maxHeartbeats 0
set_option linter.unusedSimpArgs false
set_option linter.unusedVariables false
theorem range4 (w0 : Base) (b : Nat) (l : List Int) (n c : Nat) (H : List HO) (hl : l.length = n) (h : HO.row (.slice (some ⟨b, 0, none⟩) n c) 3 1 (ints l) ∈ H) : Rdv w0 H (.slice (some ⟨b, 0, none⟩) n c) 1 (ints l) :=
  row_rdv h ⟨_, _, _, rfl, by rw [cat_len i1_len, hl], fun h => by cases h⟩
theorem beamB_all {r : Rep} (h : ∀ x ∈ ([r.a, r.b, r.c, r.d] : List Int).take 4, inB x (-200) 200 = true) : beamB r = (!zerB r.a r.b r.c r.d && (decide (trn r.a r.b r.c r.d > 0) || decide (trn r.a r.b r.c r.d = 0) && decide (alg r.a r.b r.c r.d > 0))) := by
  unfold beamB zerB
  rw [h r.a (by simp), h r.b (by simp), h r.c (by simp), h r.d (by simp), Bool.not_or]
  rfl
theorem beamB_no {r : Rep} {x : Int} (hm : x ∈ ([r.a, r.b, r.c, r.d] : List Int)) (hx : inB x (-200) 200 = false) : beamB r = false := by
  unfold beamB
  simp only [List.mem_cons, List.not_mem_nil, or_false] at hm
  rcases hm with h | h | h | h <;> rw [h] at hx <;> rw [hx] <;> simp
theorem shaped_fn (w : World) (r : Rep) : SX.Fn Tryz.prog 150 [rpv r] w (fun _ => False) fun q N => q = .bool (shpB r) := by
  have hfar := beamB_far (r := r)
  have hBa := beamB_all (r := r)
  have hBn := fun x => beamB_no (r := r) (x := x)
  obtain ⟨x1, kd, cl, a, b, c, d, s, x9⟩ := r
  unfold rpv shpB
  simp only [] at hfar hBa hBn ⊢
  obtain ⟨B, hB⟩ : ∃ B, beamB ⟨x1, kd, cl, a, b, c, d, s, x9⟩ = B := ⟨_, rfl⟩
  rw [hB] at hBa ⊢
  simp only [hB] at hBn
  refine walkC [25] [] [] (detT_ok _ _) Tryz.func150 rfl Tryz.ntmps150 res150 (by kernel_rfl) no_facts ?_
  by_cases k1 : kd = 1
  · have q1 : (kd = 1) = True := eq_true k1
    rw [if_pos k1]
    cases h1 : inB a 0 b with
    | false =>
      simp (config := { maxSteps := 4000000 }) only [↓sx0, ↓sx1, ↓sx2, ↓sx3, ↓sx4, ↓sx5, ↓sx6, sx0, sx1, sx2, sx3, sx4, sx5, sx6, tf150, ev3_hold, sxo, sxc, sxp, sxq, sxr, sxs, sxl, sxm, Int.reduceBEq, Int.reduceBNe, Int.reduceLT, Int.reduceLE, Int.reduceEq, Int.reduceGT, Int.reduceGE, Int.reduceToNat, ↓reduceIte, List.reduceReplicate, Nat.reduceAdd, Nat.reduceSub, Nat.reduceMul, Nat.reduceLT, Nat.reduceLeDiff, Nat.reduceBEq, Nat.reduceEqDiff, detT_eq, q1, h1]
      all_goals first | rfl | simp_all
    | true =>
    by_cases b0 : b ≤ 200
    case neg =>
      have p1 : (b ≤ 200) = False := eq_false b0
      simp (config := { maxSteps := 4000000 }) only [↓sx0, ↓sx1, ↓sx2, ↓sx3, ↓sx4, ↓sx5, ↓sx6, sx0, sx1, sx2, sx3, sx4, sx5, sx6, tf150, ev3_hold, sxo, sxc, sxp, sxq, sxr, sxs, sxl, sxm, Int.reduceBEq, Int.reduceBNe, Int.reduceLT, Int.reduceLE, Int.reduceEq, Int.reduceGT, Int.reduceGE, Int.reduceToNat, ↓reduceIte, List.reduceReplicate, Nat.reduceAdd, Nat.reduceSub, Nat.reduceMul, Nat.reduceLT, Nat.reduceLeDiff, Nat.reduceBEq, Nat.reduceEqDiff, detT_eq, q1, h1, p1]
      all_goals first | rfl | simp_all
    have p1 : (b ≤ 200) = True := eq_true b0
    by_cases c0 : c = 0
    case neg =>
      have p2 : (c = 0) = False := eq_false c0
      simp (config := { maxSteps := 4000000 }) only [↓sx0, ↓sx1, ↓sx2, ↓sx3, ↓sx4, ↓sx5, ↓sx6, sx0, sx1, sx2, sx3, sx4, sx5, sx6, tf150, ev3_hold, sxo, sxc, sxp, sxq, sxr, sxs, sxl, sxm, Int.reduceBEq, Int.reduceBNe, Int.reduceLT, Int.reduceLE, Int.reduceEq, Int.reduceGT, Int.reduceGE, Int.reduceToNat, ↓reduceIte, List.reduceReplicate, Nat.reduceAdd, Nat.reduceSub, Nat.reduceMul, Nat.reduceLT, Nat.reduceLeDiff, Nat.reduceBEq, Nat.reduceEqDiff, detT_eq, q1, h1, p1, p2]
      all_goals first | rfl | simp_all
    have p2 : (c = 0) = True := eq_true c0
    by_cases d0 : d = 0
    case neg =>
      have p3 : (d = 0) = False := eq_false d0
      simp (config := { maxSteps := 4000000 }) only [↓sx0, ↓sx1, ↓sx2, ↓sx3, ↓sx4, ↓sx5, ↓sx6, sx0, sx1, sx2, sx3, sx4, sx5, sx6, tf150, ev3_hold, sxo, sxc, sxp, sxq, sxr, sxs, sxl, sxm, Int.reduceBEq, Int.reduceBNe, Int.reduceLT, Int.reduceLE, Int.reduceEq, Int.reduceGT, Int.reduceGE, Int.reduceToNat, ↓reduceIte, List.reduceReplicate, Nat.reduceAdd, Nat.reduceSub, Nat.reduceMul, Nat.reduceLT, Nat.reduceLeDiff, Nat.reduceBEq, Nat.reduceEqDiff, detT_eq, q1, h1, p1, p2, p3]
      all_goals first | rfl | simp_all
    have p3 : (d = 0) = True := eq_true d0
    simp (config := { maxSteps := 4000000 }) only [↓sx0, ↓sx1, ↓sx2, ↓sx3, ↓sx4, ↓sx5, ↓sx6, sx0, sx1, sx2, sx3, sx4, sx5, sx6, tf150, ev3_hold, sxo, sxc, sxp, sxq, sxr, sxs, sxl, sxm, Int.reduceBEq, Int.reduceBNe, Int.reduceLT, Int.reduceLE, Int.reduceEq, Int.reduceGT, Int.reduceGE, Int.reduceToNat, ↓reduceIte, List.reduceReplicate, Nat.reduceAdd, Nat.reduceSub, Nat.reduceMul, Nat.reduceLT, Nat.reduceLeDiff, Nat.reduceBEq, Nat.reduceEqDiff, detT_eq, q1, h1, p1, p2, p3]
    all_goals first | rfl | simp_all
  have q1 : (kd = 1) = False := eq_false k1
  rw [if_neg k1]
  by_cases k3 : kd = 3
  · have q2 : (kd = 2) = False := eq_false (by omega)
    have q3 : (kd = 3) = True := eq_true k3
    rw [if_neg (by omega), if_pos k3]
    cases h1 : inB a 0 b with
    | false =>
      simp (config := { maxSteps := 4000000 }) only [↓sx0, ↓sx1, ↓sx2, ↓sx3, ↓sx4, ↓sx5, ↓sx6, sx0, sx1, sx2, sx3, sx4, sx5, sx6, tf150, ev3_hold, sxo, sxc, sxp, sxq, sxr, sxs, sxl, sxm, Int.reduceBEq, Int.reduceBNe, Int.reduceLT, Int.reduceLE, Int.reduceEq, Int.reduceGT, Int.reduceGE, Int.reduceToNat, ↓reduceIte, List.reduceReplicate, Nat.reduceAdd, Nat.reduceSub, Nat.reduceMul, Nat.reduceLT, Nat.reduceLeDiff, Nat.reduceBEq, Nat.reduceEqDiff, detT_eq, q1, q2, q3, h1]
      all_goals first | rfl | simp_all
    | true =>
    cases h2 : inB c 0 d with
    | false =>
      simp (config := { maxSteps := 4000000 }) only [↓sx0, ↓sx1, ↓sx2, ↓sx3, ↓sx4, ↓sx5, ↓sx6, sx0, sx1, sx2, sx3, sx4, sx5, sx6, tf150, ev3_hold, sxo, sxc, sxp, sxq, sxr, sxs, sxl, sxm, Int.reduceBEq, Int.reduceBNe, Int.reduceLT, Int.reduceLE, Int.reduceEq, Int.reduceGT, Int.reduceGE, Int.reduceToNat, ↓reduceIte, List.reduceReplicate, Nat.reduceAdd, Nat.reduceSub, Nat.reduceMul, Nat.reduceLT, Nat.reduceLeDiff, Nat.reduceBEq, Nat.reduceEqDiff, detT_eq, q1, q2, q3, h1, h2]
      all_goals first | rfl | simp_all
    | true =>
    by_cases b0 : b ≤ 200
    case neg =>
      have p1 : (b ≤ 200) = False := eq_false b0
      simp (config := { maxSteps := 4000000 }) only [↓sx0, ↓sx1, ↓sx2, ↓sx3, ↓sx4, ↓sx5, ↓sx6, sx0, sx1, sx2, sx3, sx4, sx5, sx6, tf150, ev3_hold, sxo, sxc, sxp, sxq, sxr, sxs, sxl, sxm, Int.reduceBEq, Int.reduceBNe, Int.reduceLT, Int.reduceLE, Int.reduceEq, Int.reduceGT, Int.reduceGE, Int.reduceToNat, ↓reduceIte, List.reduceReplicate, Nat.reduceAdd, Nat.reduceSub, Nat.reduceMul, Nat.reduceLT, Nat.reduceLeDiff, Nat.reduceBEq, Nat.reduceEqDiff, detT_eq, q1, q2, q3, h1, h2, p1]
      all_goals first | rfl | simp_all
    have p1 : (b ≤ 200) = True := eq_true b0
    by_cases d0 : d ≤ 200
    case neg =>
      have p2 : (d ≤ 200) = False := eq_false d0
      simp (config := { maxSteps := 4000000 }) only [↓sx0, ↓sx1, ↓sx2, ↓sx3, ↓sx4, ↓sx5, ↓sx6, sx0, sx1, sx2, sx3, sx4, sx5, sx6, tf150, ev3_hold, sxo, sxc, sxp, sxq, sxr, sxs, sxl, sxm, Int.reduceBEq, Int.reduceBNe, Int.reduceLT, Int.reduceLE, Int.reduceEq, Int.reduceGT, Int.reduceGE, Int.reduceToNat, ↓reduceIte, List.reduceReplicate, Nat.reduceAdd, Nat.reduceSub, Nat.reduceMul, Nat.reduceLT, Nat.reduceLeDiff, Nat.reduceBEq, Nat.reduceEqDiff, detT_eq, q1, q2, q3, h1, h2, p1, p2]
      all_goals first | rfl | simp_all
    have p2 : (d ≤ 200) = True := eq_true d0
    by_cases c0 : cl = 0
    case neg =>
      have p3 : (cl = 0) = False := eq_false c0
      simp (config := { maxSteps := 4000000 }) only [↓sx0, ↓sx1, ↓sx2, ↓sx3, ↓sx4, ↓sx5, ↓sx6, sx0, sx1, sx2, sx3, sx4, sx5, sx6, tf150, ev3_hold, sxo, sxc, sxp, sxq, sxr, sxs, sxl, sxm, Int.reduceBEq, Int.reduceBNe, Int.reduceLT, Int.reduceLE, Int.reduceEq, Int.reduceGT, Int.reduceGE, Int.reduceToNat, ↓reduceIte, List.reduceReplicate, Nat.reduceAdd, Nat.reduceSub, Nat.reduceMul, Nat.reduceLT, Nat.reduceLeDiff, Nat.reduceBEq, Nat.reduceEqDiff, detT_eq, q1, q2, q3, h1, h2, p1, p2, p3]
      all_goals first | rfl | simp_all
    have p3 : (cl = 0) = True := eq_true c0
    simp (config := { maxSteps := 4000000 }) only [↓sx0, ↓sx1, ↓sx2, ↓sx3, ↓sx4, ↓sx5, ↓sx6, sx0, sx1, sx2, sx3, sx4, sx5, sx6, tf150, ev3_hold, sxo, sxc, sxp, sxq, sxr, sxs, sxl, sxm, Int.reduceBEq, Int.reduceBNe, Int.reduceLT, Int.reduceLE, Int.reduceEq, Int.reduceGT, Int.reduceGE, Int.reduceToNat, ↓reduceIte, List.reduceReplicate, Nat.reduceAdd, Nat.reduceSub, Nat.reduceMul, Nat.reduceLT, Nat.reduceLeDiff, Nat.reduceBEq, Nat.reduceEqDiff, detT_eq, q1, q2, q3, h1, h2, p1, p2, p3]
    all_goals first | rfl | simp_all
  have q3 : (kd = 3) = False := eq_false k3
  by_cases k4 : kd = 4
  · have q2 : (kd = 2) = False := eq_false (by omega)
    have q4 : (kd = 4) = True := eq_true k4
    rw [if_neg (by omega), if_neg k3, if_pos k4]
    cases h1 : inB a 0 200 with
    | false =>
      simp (config := { maxSteps := 4000000 }) only [↓sx0, ↓sx1, ↓sx2, ↓sx3, ↓sx4, ↓sx5, ↓sx6, sx0, sx1, sx2, sx3, sx4, sx5, sx6, tf150, ev3_hold, sxo, sxc, sxp, sxq, sxr, sxs, sxl, sxm, Int.reduceBEq, Int.reduceBNe, Int.reduceLT, Int.reduceLE, Int.reduceEq, Int.reduceGT, Int.reduceGE, Int.reduceToNat, ↓reduceIte, List.reduceReplicate, Nat.reduceAdd, Nat.reduceSub, Nat.reduceMul, Nat.reduceLT, Nat.reduceLeDiff, Nat.reduceBEq, Nat.reduceEqDiff, detT_eq, q1, q2, q3, q4, h1]
      all_goals first | rfl | simp_all
    | true =>
    by_cases b0 : b = 0
    case neg =>
      have p1 : (b = 0) = False := eq_false b0
      simp (config := { maxSteps := 4000000 }) only [↓sx0, ↓sx1, ↓sx2, ↓sx3, ↓sx4, ↓sx5, ↓sx6, sx0, sx1, sx2, sx3, sx4, sx5, sx6, tf150, ev3_hold, sxo, sxc, sxp, sxq, sxr, sxs, sxl, sxm, Int.reduceBEq, Int.reduceBNe, Int.reduceLT, Int.reduceLE, Int.reduceEq, Int.reduceGT, Int.reduceGE, Int.reduceToNat, ↓reduceIte, List.reduceReplicate, Nat.reduceAdd, Nat.reduceSub, Nat.reduceMul, Nat.reduceLT, Nat.reduceLeDiff, Nat.reduceBEq, Nat.reduceEqDiff, detT_eq, q1, q2, q3, q4, h1, p1]
      all_goals first | rfl | simp_all
    have p1 : (b = 0) = True := eq_true b0
    by_cases c0 : c = 0
    case neg =>
      have p2 : (c = 0) = False := eq_false c0
      simp (config := { maxSteps := 4000000 }) only [↓sx0, ↓sx1, ↓sx2, ↓sx3, ↓sx4, ↓sx5, ↓sx6, sx0, sx1, sx2, sx3, sx4, sx5, sx6, tf150, ev3_hold, sxo, sxc, sxp, sxq, sxr, sxs, sxl, sxm, Int.reduceBEq, Int.reduceBNe, Int.reduceLT, Int.reduceLE, Int.reduceEq, Int.reduceGT, Int.reduceGE, Int.reduceToNat, ↓reduceIte, List.reduceReplicate, Nat.reduceAdd, Nat.reduceSub, Nat.reduceMul, Nat.reduceLT, Nat.reduceLeDiff, Nat.reduceBEq, Nat.reduceEqDiff, detT_eq, q1, q2, q3, q4, h1, p1, p2]
      all_goals first | rfl | simp_all
    have p2 : (c = 0) = True := eq_true c0
    by_cases d0 : d = 0
    case neg =>
      have p3 : (d = 0) = False := eq_false d0
      simp (config := { maxSteps := 4000000 }) only [↓sx0, ↓sx1, ↓sx2, ↓sx3, ↓sx4, ↓sx5, ↓sx6, sx0, sx1, sx2, sx3, sx4, sx5, sx6, tf150, ev3_hold, sxo, sxc, sxp, sxq, sxr, sxs, sxl, sxm, Int.reduceBEq, Int.reduceBNe, Int.reduceLT, Int.reduceLE, Int.reduceEq, Int.reduceGT, Int.reduceGE, Int.reduceToNat, ↓reduceIte, List.reduceReplicate, Nat.reduceAdd, Nat.reduceSub, Nat.reduceMul, Nat.reduceLT, Nat.reduceLeDiff, Nat.reduceBEq, Nat.reduceEqDiff, detT_eq, q1, q2, q3, q4, h1, p1, p2, p3]
      all_goals first | rfl | simp_all
    have p3 : (d = 0) = True := eq_true d0
    simp (config := { maxSteps := 4000000 }) only [↓sx0, ↓sx1, ↓sx2, ↓sx3, ↓sx4, ↓sx5, ↓sx6, sx0, sx1, sx2, sx3, sx4, sx5, sx6, tf150, ev3_hold, sxo, sxc, sxp, sxq, sxr, sxs, sxl, sxm, Int.reduceBEq, Int.reduceBNe, Int.reduceLT, Int.reduceLE, Int.reduceEq, Int.reduceGT, Int.reduceGE, Int.reduceToNat, ↓reduceIte, List.reduceReplicate, Nat.reduceAdd, Nat.reduceSub, Nat.reduceMul, Nat.reduceLT, Nat.reduceLeDiff, Nat.reduceBEq, Nat.reduceEqDiff, detT_eq, q1, q2, q3, q4, h1, p1, p2, p3]
    all_goals first | rfl | simp_all
  have q4 : (kd = 4) = False := eq_false k4
  by_cases k2 : kd = 2
  case neg =>
    have q2 : (kd = 2) = False := eq_false k2
    rw [if_neg k2, if_neg k3, if_neg k4]
    simp (config := { maxSteps := 4000000 }) only [↓sx0, ↓sx1, ↓sx2, ↓sx3, ↓sx4, ↓sx5, ↓sx6, sx0, sx1, sx2, sx3, sx4, sx5, sx6, tf150, ev3_hold, sxo, sxc, sxp, sxq, sxr, sxs, sxl, sxm, Int.reduceBEq, Int.reduceBNe, Int.reduceLT, Int.reduceLE, Int.reduceEq, Int.reduceGT, Int.reduceGE, Int.reduceToNat, ↓reduceIte, List.reduceReplicate, Nat.reduceAdd, Nat.reduceSub, Nat.reduceMul, Nat.reduceLT, Nat.reduceLeDiff, Nat.reduceBEq, Nat.reduceEqDiff, detT_eq, q1, q2, q3, q4]
  have q2 : (kd = 2) = True := eq_true k2
  rw [if_pos k2]
  simp (config := { maxSteps := 4000000 }) only [↓sx0, ↓sx1, ↓sx2, ↓sx3, ↓sx4, ↓sx5, ↓sx6, sx0, sx1, sx2, sx3, sx4, sx5, sx6, tf150, ev3_hold, sxo, sxc, sxp, sxq, sxr, sxs, sxl, sxm, Int.reduceBEq, Int.reduceBNe, Int.reduceLT, Int.reduceLE, Int.reduceEq, Int.reduceGT, Int.reduceGE, Int.reduceToNat, ↓reduceIte, List.reduceReplicate, Nat.reduceAdd, Nat.reduceSub, Nat.reduceMul, Nat.reduceLT, Nat.reduceLeDiff, Nat.reduceBEq, Nat.reduceEqDiff, detT_eq, q1, q2]
  intro b1
  refine loop_const [(2, 2), (6, 6), (48, 55)] (fun i : Nat => [(48, I i)]) (fun i H1 => i ≤ 4 ∧ (∀ x ∈ ([a, b, c, d] : List Int).take i, inB x (-200) 200 = true) ∧ H1 = [HO.row (.slice (some ⟨b1, 0, none⟩) 4 4) 3 1 (ints [a, b, c, d])]) (fun i => 4 - i) 0 ?_ ⟨by omega, fun x hx => by simp at hx, rfl⟩ ?_
  · simp (config := { maxSteps := 4000000 }) only [↓sx0, ↓sx1, ↓sx2, ↓sx3, ↓sx4, ↓sx5, ↓sx6, sx0, sx1, sx2, sx3, sx4, sx5, sx6, tf150, ev3_hold, sxo, sxc, sxp, sxq, sxr, sxs, sxl, sxm, Int.reduceBEq, Int.reduceBNe, Int.reduceLT, Int.reduceLE, Int.reduceEq, Int.reduceGT, Int.reduceGE, Int.reduceToNat, ↓reduceIte, List.reduceReplicate, Nat.reduceAdd, Nat.reduceSub, Nat.reduceMul, Nat.reduceLT, Nat.reduceLeDiff, Nat.reduceBEq, Nat.reduceEqDiff]
    try simp
  rintro i H1 g1 ⟨hi, hall, rfl⟩
  by_cases hi4 : i = 4
  · subst hi4
    have e7 : (((4 : Nat) : Int) < ((4 : Nat) : Int)) = False := eq_false (by omega)
    have h1 := hall a (by simp)
    have h2 := hall b (by simp)
    have h3 := hall c (by simp)
    have h4 := hall d (by simp)
    rw [h1, h2, h3, h4] at hfar
    obtain ⟨f1, f2⟩ := hfar rfl
    have hBa := hBa hall
    obtain ⟨T, hT⟩ : ∃ T, trn a b c d = T := ⟨_, rfl⟩
    obtain ⟨G, hG⟩ : ∃ G, alg a b c d = G := ⟨_, rfl⟩
    rw [hT] at f1 hBa
    rw [hG] at f2 hBa
    simp (config := { maxSteps := 4000000 }) only [↓sx0, ↓sx1, ↓sx2, ↓sx3, ↓sx4, ↓sx5, ↓sx6, sx0, sx1, sx2, sx3, sx4, sx5, sx6, tf150, ev3_hold, sxo, sxc, sxp, sxq, sxr, sxs, sxl, sxm, Int.reduceBEq, Int.reduceBNe, Int.reduceLT, Int.reduceLE, Int.reduceEq, Int.reduceGT, Int.reduceGE, Int.reduceToNat, ↓reduceIte, List.reduceReplicate, Nat.reduceAdd, Nat.reduceSub, Nat.reduceMul, Nat.reduceLT, Nat.reduceLeDiff, Nat.reduceBEq, Nat.reduceEqDiff, e7]
    refine cut_const [(56, 63)] (fun _ : Unit => [(63, .bool (zerB a b c d))]) (fun _ H2 => True) ?_ ?_
    · unfold zerB
      simp (config := { maxSteps := 4000000 }) only [↓sx0, ↓sx1, ↓sx2, ↓sx3, ↓sx4, ↓sx5, ↓sx6, sx0, sx1, sx2, sx3, sx4, sx5, sx6, tf150, ev3_hold, sxo, sxc, sxp, sxq, sxr, sxs, sxl, sxm, Int.reduceBEq, Int.reduceBNe, Int.reduceLT, Int.reduceLE, Int.reduceEq, Int.reduceGT, Int.reduceGE, Int.reduceToNat, ↓reduceIte, List.reduceReplicate, Nat.reduceAdd, Nat.reduceSub, Nat.reduceMul, Nat.reduceLT, Nat.reduceLeDiff, Nat.reduceBEq, Nat.reduceEqDiff]
      refine ⟨_, eq_vec a b, ?_⟩
      cases hz : (decide (a = 0) && decide (b = 0)) with
      | true =>
        simp (config := { maxSteps := 4000000 }) only [↓sx0, ↓sx1, ↓sx2, ↓sx3, ↓sx4, ↓sx5, ↓sx6, sx0, sx1, sx2, sx3, sx4, sx5, sx6, tf150, ev3_hold, sxo, sxc, sxp, sxq, sxr, sxs, sxl, sxm, Int.reduceBEq, Int.reduceBNe, Int.reduceLT, Int.reduceLE, Int.reduceEq, Int.reduceGT, Int.reduceGE, Int.reduceToNat, ↓reduceIte, List.reduceReplicate, Nat.reduceAdd, Nat.reduceSub, Nat.reduceMul, Nat.reduceLT, Nat.reduceLeDiff, Nat.reduceBEq, Nat.reduceEqDiff]
        first | exact ⟨(), _, HImp.refl _ _, trivial⟩ | exact ⟨(), _, by simp, HImp.refl _ _, trivial⟩ | exact ⟨(), _, HImp.refl _ _⟩ | exact ⟨(), _, by simp, HImp.refl _ _⟩
      | false =>
        simp (config := { maxSteps := 4000000 }) only [↓sx0, ↓sx1, ↓sx2, ↓sx3, ↓sx4, ↓sx5, ↓sx6, sx0, sx1, sx2, sx3, sx4, sx5, sx6, tf150, ev3_hold, sxo, sxc, sxp, sxq, sxr, sxs, sxl, sxm, Int.reduceBEq, Int.reduceBNe, Int.reduceLT, Int.reduceLE, Int.reduceEq, Int.reduceGT, Int.reduceGE, Int.reduceToNat, ↓reduceIte, List.reduceReplicate, Nat.reduceAdd, Nat.reduceSub, Nat.reduceMul, Nat.reduceLT, Nat.reduceLeDiff, Nat.reduceBEq, Nat.reduceEqDiff]
        refine ⟨_, eq_vec c d, ?_⟩
        simp (config := { maxSteps := 4000000 }) only [↓sx0, ↓sx1, ↓sx2, ↓sx3, ↓sx4, ↓sx5, ↓sx6, sx0, sx1, sx2, sx3, sx4, sx5, sx6, tf150, ev3_hold, sxo, sxc, sxp, sxq, sxr, sxs, sxl, sxm, Int.reduceBEq, Int.reduceBNe, Int.reduceLT, Int.reduceLE, Int.reduceEq, Int.reduceGT, Int.reduceGE, Int.reduceToNat, ↓reduceIte, List.reduceReplicate, Nat.reduceAdd, Nat.reduceSub, Nat.reduceMul, Nat.reduceLT, Nat.reduceLeDiff, Nat.reduceBEq, Nat.reduceEqDiff]
        first | exact ⟨(), _, HImp.refl _ _, trivial⟩ | exact ⟨(), _, by simp, HImp.refl _ _, trivial⟩ | exact ⟨(), _, HImp.refl _ _⟩ | exact ⟨(), _, by simp, HImp.refl _ _⟩
    rintro _ H2 g2 _
    cases hZ : zerB a b c d with
    | true =>
      rw [hZ] at hBa
      simp (config := { maxSteps := 4000000 }) only [↓sx0, ↓sx1, ↓sx2, ↓sx3, ↓sx4, ↓sx5, ↓sx6, sx0, sx1, sx2, sx3, sx4, sx5, sx6, tf150, ev3_hold, sxo, sxc, sxp, sxq, sxr, sxs, sxl, sxm, Int.reduceBEq, Int.reduceBNe, Int.reduceLT, Int.reduceLE, Int.reduceEq, Int.reduceGT, Int.reduceGE, Int.reduceToNat, ↓reduceIte, List.reduceReplicate, Nat.reduceAdd, Nat.reduceSub, Nat.reduceMul, Nat.reduceLT, Nat.reduceLeDiff, Nat.reduceBEq, Nat.reduceEqDiff]
      all_goals simp [hBa]
    | false =>
    rw [hZ] at hBa
    by_cases t1 : T > 0
    · have p1 : (T > 0) = True := eq_true t1
      simp (config := { maxSteps := 4000000 }) only [↓sx0, ↓sx1, ↓sx2, ↓sx3, ↓sx4, ↓sx5, ↓sx6, sx0, sx1, sx2, sx3, sx4, sx5, sx6, tf150, ev3_hold, sxo, sxc, sxp, sxq, sxr, sxs, sxl, sxm, Int.reduceBEq, Int.reduceBNe, Int.reduceLT, Int.reduceLE, Int.reduceEq, Int.reduceGT, Int.reduceGE, Int.reduceToNat, ↓reduceIte, List.reduceReplicate, Nat.reduceAdd, Nat.reduceSub, Nat.reduceMul, Nat.reduceLT, Nat.reduceLeDiff, Nat.reduceBEq, Nat.reduceEqDiff, detT_eq, f1, f2, p1]
      all_goals simp [hBa, t1]
    · have p1 : (T > 0) = False := eq_false t1
      by_cases t2 : T = 0
      · have p2 : (T = 0) = True := eq_true t2
        by_cases t3 : G > 0
        · have p3 : (G > 0) = True := eq_true t3
          simp (config := { maxSteps := 4000000 }) only [↓sx0, ↓sx1, ↓sx2, ↓sx3, ↓sx4, ↓sx5, ↓sx6, sx0, sx1, sx2, sx3, sx4, sx5, sx6, tf150, ev3_hold, sxo, sxc, sxp, sxq, sxr, sxs, sxl, sxm, Int.reduceBEq, Int.reduceBNe, Int.reduceLT, Int.reduceLE, Int.reduceEq, Int.reduceGT, Int.reduceGE, Int.reduceToNat, ↓reduceIte, List.reduceReplicate, Nat.reduceAdd, Nat.reduceSub, Nat.reduceMul, Nat.reduceLT, Nat.reduceLeDiff, Nat.reduceBEq, Nat.reduceEqDiff, detT_eq, f1, f2, p1, p2, p3]
          all_goals simp [hBa, t1, t2, t3]
        · have p3 : (G > 0) = False := eq_false t3
          simp (config := { maxSteps := 4000000 }) only [↓sx0, ↓sx1, ↓sx2, ↓sx3, ↓sx4, ↓sx5, ↓sx6, sx0, sx1, sx2, sx3, sx4, sx5, sx6, tf150, ev3_hold, sxo, sxc, sxp, sxq, sxr, sxs, sxl, sxm, Int.reduceBEq, Int.reduceBNe, Int.reduceLT, Int.reduceLE, Int.reduceEq, Int.reduceGT, Int.reduceGE, Int.reduceToNat, ↓reduceIte, List.reduceReplicate, Nat.reduceAdd, Nat.reduceSub, Nat.reduceMul, Nat.reduceLT, Nat.reduceLeDiff, Nat.reduceBEq, Nat.reduceEqDiff, detT_eq, f1, f2, p1, p2, p3]
          all_goals simp [hBa, t1, t2, t3]
      · have p2 : (T = 0) = False := eq_false t2
        simp (config := { maxSteps := 4000000 }) only [↓sx0, ↓sx1, ↓sx2, ↓sx3, ↓sx4, ↓sx5, ↓sx6, sx0, sx1, sx2, sx3, sx4, sx5, sx6, tf150, ev3_hold, sxo, sxc, sxp, sxq, sxr, sxs, sxl, sxm, Int.reduceBEq, Int.reduceBNe, Int.reduceLT, Int.reduceLE, Int.reduceEq, Int.reduceGT, Int.reduceGE, Int.reduceToNat, ↓reduceIte, List.reduceReplicate, Nat.reduceAdd, Nat.reduceSub, Nat.reduceMul, Nat.reduceLT, Nat.reduceLeDiff, Nat.reduceBEq, Nat.reduceEqDiff, detT_eq, f1, f2, p1, p2]
        all_goals simp [hBa, t1, t2]
  have e7 : ((i : Int) < ((4 : Nat) : Int)) = True := eq_true (by omega)
  have e8 : wr (i + 1) = ((i + 1 : Nat) : Int) := (wrap_id (by omega)).trans (by omega)
  obtain ⟨x, hx⟩ : ∃ x, ([a, b, c, d] : List Int)[i]? = some x := ⟨_, List.getElem?_eq_getElem (by simp only [List.length_cons, List.length_nil]; omega)⟩
  simp (config := { maxSteps := 4000000 }) only [↓sx0, ↓sx1, ↓sx2, ↓sx3, ↓sx4, ↓sx5, ↓sx6, sx0, sx1, sx2, sx3, sx4, sx5, sx6, tf150, ev3_hold, sxo, sxc, sxp, sxq, sxr, sxs, sxl, sxm, Int.reduceBEq, Int.reduceBNe, Int.reduceLT, Int.reduceLE, Int.reduceEq, Int.reduceGT, Int.reduceGE, Int.reduceToNat, ↓reduceIte, List.reduceReplicate, Nat.reduceAdd, Nat.reduceSub, Nat.reduceMul, Nat.reduceLT, Nat.reduceLeDiff, Nat.reduceBEq, Nat.reduceEqDiff, e7]
  refine amid (at_1 (range4 _ _ _ 4 _ _ rfl List.mem_cons_self) i1_len hx rfl fun ad1 => ?_)
  cases hxb : inB x (-200) 200 with
  | false =>
    simp (config := { maxSteps := 4000000 }) only [↓sx0, ↓sx1, ↓sx2, ↓sx3, ↓sx4, ↓sx5, ↓sx6, sx0, sx1, sx2, sx3, sx4, sx5, sx6, tf150, ev3_hold, sxo, sxc, sxp, sxq, sxr, sxs, sxl, sxm, Int.reduceBEq, Int.reduceBNe, Int.reduceLT, Int.reduceLE, Int.reduceEq, Int.reduceGT, Int.reduceGE, Int.reduceToNat, ↓reduceIte, List.reduceReplicate, Nat.reduceAdd, Nat.reduceSub, Nat.reduceMul, Nat.reduceLT, Nat.reduceLeDiff, Nat.reduceBEq, Nat.reduceEqDiff, detT_eq, hxb]
    rw [hBn x (List.mem_of_getElem? hx) hxb]
  | true =>
    simp (config := { maxSteps := 4000000 }) only [↓sx0, ↓sx1, ↓sx2, ↓sx3, ↓sx4, ↓sx5, ↓sx6, sx0, sx1, sx2, sx3, sx4, sx5, sx6, tf150, ev3_hold, sxo, sxc, sxp, sxq, sxr, sxs, sxl, sxm, Int.reduceBEq, Int.reduceBNe, Int.reduceLT, Int.reduceLE, Int.reduceEq, Int.reduceGT, Int.reduceGE, Int.reduceToNat, ↓reduceIte, List.reduceReplicate, Nat.reduceAdd, Nat.reduceSub, Nat.reduceMul, Nat.reduceLT, Nat.reduceLeDiff, Nat.reduceBEq, Nat.reduceEqDiff, detT_eq, hxb, e8]
    refine ⟨i + 1, _, rfl, HImp.refl _ _, ⟨by omega, fun y hy => ?_, rfl⟩, by omega⟩
    rw [List.take_add_one, hx] at hy
    rcases List.mem_append.1 hy with h | h
    · exact hall y h
    · simp only [Option.toList_some, List.mem_singleton] at h
      subst h
      exact hxb
end Go.Proofs.YtnbogcpnpcbjgaaGreatDoor

namespace Go.Proofs.YtnbogcpnpcbjgaaGreatDoor
open Go.RowKit Go.SX
set_option maxRecDepth 10000
set_option maxHeartbeats 0
set_option linter.unusedSimpArgs false
set_option linter.unusedVariables false
abbrev Lp (α : Type) := List α × Option Addr × Nat × Nat
def lpv {α : Type} (p : Lp α) : Value := .slice p.2.1 p.2.2.1 p.2.2.2
def lpc {α : Type} (p : Lp α) : List Value := [lpv p]
theorem lpc_len {α : Type} (p : Lp α) : (lpc p).length = 1 := rfl
theorem lpc_one {α : Type} (p : Lp α) : ∀ y ∈ lpc p, y.oneCell' = true := by simp [lpc, lpv, Value.oneCell']
def LLOk {α : Type} (f : α → List Value) (sz : Nat) (w : World) (v : Value) (cs : List (List α)) : Prop := ∃ ps : List (Lp α), ps.map Prod.fst = cs ∧ Sl w v 1 (cat lpc ps) ∧ ∀ p ∈ ps, Sl w (lpv p) sz (cat f p.1)
def LLN {α : Type} (f : α → List Value) (sz : Nat) (T E : TypeId) (N : List HO) (v : Value) (cs : List (List α)) : Prop := ∃ ps : List (Lp α), ps.map Prod.fst = cs ∧ HO.row v T 1 (cat lpc ps) ∈ N ∧ ∀ p ∈ ps, HO.row (lpv p) E sz (cat f p.1) ∈ N
theorem LLN.ok {α : Type} {f : α → List Value} {sz : Nat} {T E : TypeId} {N H : List HO} {v : Value} {cs : List (List α)} (h : LLN f sz T E N v cs) (hm : ∀ h ∈ N, h ∈ H) {w0 : Base} {w : World} (hp : Hp w0 H w) : LLOk f sz w v cs := by
  obtain ⟨ps, h1, h2, h3⟩ := h
  exact ⟨ps, h1, row_hp (hm _ h2) hp, fun p h => row_hp (hm _ (h3 p h)) hp⟩
theorem LLN.mono {α : Type} {f : α → List Value} {sz : Nat} {T E : TypeId} {N N' : List HO} {v : Value} {cs : List (List α)} (h : LLN f sz T E N v cs) (hm : ∀ h ∈ N, h ∈ N') : LLN f sz T E N' v cs := by
  obtain ⟨ps, h1, h2, h3⟩ := h
  exact ⟨ps, h1, hm _ h2, fun p h => hm _ (h3 p h)⟩
theorem LLOk.hp {α : Type} {f : α → List Value} {sz : Nat} {w0 : World} {H : List HO} {v : Value} {cs : List (List α)} (h : LLOk f sz w0 v cs) {w : World} (hp : Hp ⟨w0, fun _ => False⟩ H w) : LLOk f sz w v cs := by
  obtain ⟨ps, h1, h2, h3⟩ := h
  exact ⟨ps, h1, Sl.hp (w0 := ⟨w0, fun _ => False⟩) h2 (fun _ _ => id) hp, fun p hm => Sl.hp (w0 := ⟨w0, fun _ => False⟩) (h3 p hm) (fun _ _ => id) hp⟩
theorem LLOk.at {α : Type} {f : α → List Value} {sz : Nat} {w : World} {v : Value} {cs : List (List α)} (hf : ∀ a, (f a).length = sz) (hsz : 0 < sz) (h : LLOk f sz w v cs) : ∃ (ps : List (Lp α)) (a : Option Addr) (cp : Nat), v = .slice a cs.length cp ∧ ps.length = cs.length ∧ Sl w (.slice a cs.length cp) 1 (cat lpc ps) ∧ ∀ (i : Nat) x, cs[i]? = some x → ∃ a2 c2, ps[i]? = some (x, a2, x.length, c2) ∧ Sl w (.slice a2 x.length c2) sz (cat f x) := by
  obtain ⟨ps, h1, h2, h3⟩ := h
  obtain ⟨a, n, cp, rfl⟩ := h2.shape
  have hn := h2.le lpc_len (by omega)
  have hl : ps.length = cs.length := by rw [← h1, List.length_map]
  refine ⟨ps, a, cp, by rw [← hl, hn], hl, by rw [← hl, hn]; exact h2, fun i x hx => ?_⟩
  rw [← h1, List.getElem?_map, Option.map_eq_some_iff] at hx
  obtain ⟨⟨l, a2, n2, c2⟩, hp, rfl⟩ := hx
  have hs := h3 _ (List.mem_of_getElem? hp)
  have hle : l.length = n2 := hs.le hf hsz
  simp only [] at hle ⊢
  subst hle
  exact ⟨a2, c2, hp, hs⟩
def seaC (d : Dis) (sD sT sS sR vA vF vX : Value) : List Value := [I d.c.wide, I d.c.high, sD, sT, sS, I d.dr, I d.pc, sR, vA, vF, vX]
def SeaOk (w : World) (bs : Nat) (d : Dis) : Prop := ∃ sD sT sS sR vA vF vX, (∀ (i : Nat) v, (seaC d sD sT sS sR vA vF vX)[i]? = some v → w.cell? ⟨bs, i, none⟩ = some v) ∧ ChOk w (.agg #[I d.c.wide, I d.c.high, sD, sT, sS]) d.c ∧ Sl w sR 9 (cat rpc d.rs) ∧ LLOk i1 1 w vA (apL d.c) ∧ LLOk b1 1 w vF d.flL ∧ LLOk b1 1 w vX d.fiL
def SeaN (N : List HO) (v : Value) (bs : Nat) (d : Dis) : Prop := ∃ sD sT sS sR vA vF vX, v = .agg #[I d.c.wide, I d.c.high, sD, sT, sS, I d.dr, I d.pc, sR] ∧ HO.cells bs 177 (seaC d sD sT sS sR vA vF vX) ∈ N ∧ LLN i1 1 22 3 N vA (apL d.c) ∧ LLN b1 1 178 4 N vF d.flL ∧ LLN b1 1 178 4 N vX d.fiL
theorem SeaN.ok {N H : List HO} {v : Value} {bs : Nat} {d : Dis} (h : SeaN N v bs d) (hm : ∀ h ∈ N, h ∈ H) {w0 : World} (hd : DsOk w0 v d) {w : World} (hp : Hp ⟨w0, fun _ => False⟩ H w) : SeaOk w bs d := by
  obtain ⟨sD, sT, sS, sR, vA, vF, vX, rfl, h1, h2, h3, h4⟩ := h
  obtain ⟨_, _, _, _, e, hc, hr⟩ := hd
  cases e
  exact ⟨_, _, _, _, vA, vF, vX, cells_old (hm _ h1) hp, hc.hp hp, hr.hp (fun _ _ => id) hp, h2.ok hm hp, h3.ok hm hp, h4.ok hm hp⟩
theorem SeaOk.hp {w0 : World} {bs : Nat} {d : Dis} (h : SeaOk w0 bs d) {H : List HO} {w : World} (hp : Hp ⟨w0, fun _ => False⟩ H w) : SeaOk w bs d := by
  obtain ⟨sD, sT, sS, sR, vA, vF, vX, h1, h2, h3, h4, h5, h6⟩ := h
  exact ⟨sD, sT, sS, sR, vA, vF, vX, cell_keep h1 hp.ext, h2.hp hp, h3.hp (fun _ _ => id) hp, h4.hp hp, h5.hp hp, h6.hp hp⟩
def SayOk (w : World) (bs : Nat) (c : Cht) : Prop := ∃ vA, w.cell? ⟨bs, 0, none⟩ = some (I c.wide) ∧ w.cell? ⟨bs, 8, none⟩ = some vA ∧ LLOk i1 1 w vA (apL c)
theorem centre_fn (w : World) (bs W k : Nat) (hc : w.cell? ⟨bs, 0, none⟩ = some (I W)) (hW : 1 ≤ W ∧ W ≤ 12) (hk : k < 200) : SX.Fn Tryz.prog 154 [.pointer (some ⟨bs, 0, none⟩), I k] w (fun _ => False) fun q N => q = .agg #[I (cenX W k), I (cenY W k)] := by
  have hdm := tdivmod (k := k) hW.1
  have hdm2 := tdivmod (k := k / W) (W := 2) (by omega)
  have hq : k / W ≤ k := Nat.div_le_self _ _
  have hr : k % W < W := Nat.mod_lt _ (by omega)
  unfold cenX cenY
  generalize k / W = q at *
  generalize k % W = r at *
  have e0 : ((W : Int) = 0) = False := eq_false (by omega)
  have e1 : wr (q : Int) = q := wrap_id (by omega)
  have e2 : wr (2 * (r : Int)) = 2 * (r : Int) := wrap_id (by omega)
  have e3 : wr (2 * (q : Int)) = 2 * (q : Int) := wrap_id (by omega)
  have e4 : (q : Int).tmod 2 = ((q % 2 : Nat) : Int) := hdm2.2
  have e5 : wr (2 * (r : Int) + ((q % 2 : Nat) : Int)) = 2 * (r : Int) + ((q % 2 : Nat) : Int) := wrap_id (by omega)
  refine walk [] [] (det0_ok _ _) Tryz.func154 rfl Tryz.ntmps154 res154 (by kernel_rfl) no_facts ?_
  simp (config := { maxSteps := 4000000 }) only [↓sx0, ↓sx1, ↓sx2, ↓sx3, ↓sx4, ↓sx5, ↓sx6, sx0, sx1, sx2, sx3, sx4, sx5, sx6, tf154, ev3_hold, sxo, sxc, sxp, sxq, sxr, sxs, sxl, sxm, simprocAttr]
  refine ld_olda (b := bs) (o := 0) rfl hc id ?_
  simp (config := { maxSteps := 4000000 }) only [↓sx0, ↓sx1, ↓sx2, ↓sx3, ↓sx4, ↓sx5, ↓sx6, sx0, sx1, sx2, sx3, sx4, sx5, sx6, tf154, ev3_hold, sxo, sxc, sxp, sxq, sxr, sxs, sxl, sxm, simprocAttr, e0, hdm.1, hdm.2, e1]
  refine ld_olda (b := bs) (o := 0) rfl hc id ?_
  simp (config := { maxSteps := 4000000 }) only [↓sx0, ↓sx1, ↓sx2, ↓sx3, ↓sx4, ↓sx5, ↓sx6, sx0, sx1, sx2, sx3, sx4, sx5, sx6, tf154, ev3_hold, sxo, sxc, sxp, sxq, sxr, sxs, sxl, sxm, simprocAttr, e0, hdm.1, hdm.2, e1, e2, e3, e4, e5]
end Go.Proofs.YtnbogcpnpcbjgaaGreatDoor

namespace Go.Proofs.YtnbogcpnpcbjgaaGreatDoor
open Go.RowKit Go.SX
set_option maxRecDepth 10000
set_option maxHeartbeats 0
set_option linter.unusedSimpArgs false
set_option linter.unusedVariables false
def rowF {α : Type} (n : Nat) (f : Nat → α) : List α := (List.range n).map f
theorem rowF_len {α : Type} (n : Nat) (f : Nat → α) : (rowF n f).length = n := by unfold rowF; rw [List.length_map, List.length_range]
theorem rowF_get {α : Type} {n k : Nat} (f : Nat → α) (h : k < n) : (rowF n f)[k]? = some (f k) := by unfold rowF; rw [List.getElem?_map, List.getElem?_range h]; rfl
theorem rowF_congr {α : Type} {n : Nat} {f g : Nat → α} (h : ∀ x, x < n → f x = g x) : rowF n f = rowF n g := List.map_congr_left fun x hx => h x (List.mem_range.1 hx)
theorem rowF_rep {α : Type} (n : Nat) (v : α) : List.replicate n v = rowF n fun _ => v := by unfold rowF; rw [List.map_const', List.length_range]
theorem rowF_set {α : Type} (n : Nat) (f : Nat → α) (k : Nat) (v : α) : (rowF n f).set k v = rowF n fun x => if x = k then v else f x := by
  refine List.ext_getElem? fun i => ?_
  by_cases hi : i < n
  · rw [rowF_get _ hi, List.getElem?_set]
    by_cases e : k = i
    · subst e
      rw [if_pos rfl, if_pos (by rw [rowF_len]; exact hi), if_pos rfl]
    · rw [if_neg e, rowF_get _ hi, if_neg (fun h => e h.symm)]
  · rw [List.getElem?_eq_none (by rw [List.length_set, rowF_len]; omega), List.getElem?_eq_none (by rw [rowF_len]; omega)]
theorem ap_get (c : Cht) {a : Nat} (h : a < c.depth.length) : (apL c)[a]? = some (apRow c a) := rowF_get _ h
theorem ap_get2 (c : Cht) (a : Nat) {b : Nat} (h : b < c.depth.length) : (apRow c a)[b]? = some (dst c.W c.H a b : Int) := rowF_get _ h
theorem add3_fn (w : World) (va vb : Value) (n : Nat) (hn : n ≤ 200) (f g : Nat → Int) (ha : Sl w va 1 (ints (rowF n f))) (hb : Sl w vb 1 (ints (rowF n g))) (hf : ∀ x, x < n → 0 ≤ f x ∧ f x ≤ NV) (hg : ∀ x, x < n → 0 ≤ g x ∧ g x ≤ NV) :
    SX.Fn Tryz.prog 80 [va, vb] w (fun _ => False) fun q N => ∃ b, q = .slice (some ⟨b, 0, none⟩) n n ∧ HO.row (.slice (some ⟨b, 0, none⟩) n n) 3 1 (ints (rowF n fun x => min NV (f x + g x))) ∈ N := by
  obtain ⟨aa, na, ca, rfl⟩ := ha.shape
  obtain ⟨ab, nb, cb, rfl⟩ := hb.shape
  have hna := ha.le i1_len (by omega)
  have hnb := hb.le i1_len (by omega)
  rw [rowF_len] at hna hnb
  subst hna hnb
  have hra := ha.rd0
  have hrb := hb.rd0
  refine walk [] [] (det0_ok _ _) Tryz.func80 rfl Tryz.ntmps80 res80 (by kernel_rfl) no_facts ?_
  simp (config := { maxSteps := 4000000 }) only [↓sx0, ↓sx1, ↓sx2, ↓sx3, ↓sx4, ↓sx5, ↓sx6, sx0, sx1, sx2, sx3, sx4, sx5, sx6, tf80, ev3_hold, sxo, sxc, sxp, sxq, sxr, sxs, sxl, sxm, simprocAttr]
  refine ⟨by omega, by omega, by omega, fun b1 => ?_⟩
  have hz : zerosL n [Value.int IntKind.i64 0] = ints (rowF n fun x => if x < 0 then min NV (f x + g x) else 0) := by
    rw [show zerosL n [Value.int IntKind.i64 0] = ints (List.replicate n 0) from zeros_cat i1 0 n, rowF_rep]
    rfl
  refine loop_constH [HO.row (.slice (some ⟨b1, 0, none⟩) n n) 3 1 (ints (rowF n fun x => if x < 0 then min NV (f x + g x) else 0))] (by rw [← hz]; exact HImp.refl _ _) [(6, 6), (12, 28)] (fun i : Nat => [(12, I i)]) (fun i H1 => i ≤ n ∧ H1 = [HO.row (.slice (some ⟨b1, 0, none⟩) n n) 3 1 (ints (rowF n fun x => if x < i then min NV (f x + g x) else 0))]) (fun i => n - i) 0 ?_ ⟨by omega, rfl⟩ ?_
  · simp (config := { maxSteps := 4000000 }) only [↓sx0, ↓sx1, ↓sx2, ↓sx3, ↓sx4, ↓sx5, ↓sx6, sx0, sx1, sx2, sx3, sx4, sx5, sx6, tf80, ev3_hold, sxo, sxc, sxp, sxq, sxr, sxs, sxl, sxm, simprocAttr]
    try simp
  rintro i H1 g1 ⟨hi, rfl⟩
  by_cases hin : i = n
  · have e7 : ((i : Int) < (n : Int)) = False := eq_false (by omega)
    refine ⟨?_⟩
    simp (config := { maxSteps := 4000000 }) only [↓sx0, ↓sx1, ↓sx2, ↓sx3, ↓sx4, ↓sx5, ↓sx6, sx0, sx1, sx2, sx3, sx4, sx5, sx6, tf80, ev3_hold, sxo, sxc, sxp, sxq, sxr, sxs, sxl, sxm, simprocAttr, e7]
    refine ⟨b1, rfl, ?_⟩
    rw [rowF_congr (g := fun x => min NV (f x + g x)) fun x hx => if_pos (by omega)]
    exact List.mem_cons_self
  have e7 : ((i : Int) < (n : Int)) = True := eq_true (by omega)
  have e8 : wr (i + 1) = ((i + 1 : Nat) : Int) := (wrap_id (by omega)).trans (by omega)
  have hfi := hf i (by omega)
  have hgi := hg i (by omega)
  unfold NV at hfi hgi
  have e9 : wr (f i + g i) = f i + g i := wrap_id (by omega)
  refine ⟨?_⟩
  simp (config := { maxSteps := 4000000 }) only [↓sx0, ↓sx1, ↓sx2, ↓sx3, ↓sx4, ↓sx5, ↓sx6, sx0, sx1, sx2, sx3, sx4, sx5, sx6, tf80, ev3_hold, sxo, sxc, sxp, sxq, sxr, sxs, sxl, sxm, simprocAttr, e7]
  refine amid (at_1 (hra _) i1_len (rowF_get f (show i < n by omega)) rfl fun ad1 => ?_)
  simp (config := { maxSteps := 4000000 }) only [↓sx0, ↓sx1, ↓sx2, ↓sx3, ↓sx4, ↓sx5, ↓sx6, sx0, sx1, sx2, sx3, sx4, sx5, sx6, tf80, ev3_hold, sxo, sxc, sxp, sxq, sxr, sxs, sxl, sxm, simprocAttr]
  refine at_1 (hrb _) i1_len (rowF_get g (show i < n by omega)) rfl fun ad2 => ?_
  simp (config := { maxSteps := 4000000 }) only [↓sx0, ↓sx1, ↓sx2, ↓sx3, ↓sx4, ↓sx5, ↓sx6, sx0, sx1, sx2, sx3, sx4, sx5, sx6, tf80, ev3_hold, sxo, sxc, sxp, sxq, sxr, sxs, sxl, sxm, simprocAttr, e9]
  refine ⟨by omega, by omega, _, rfl, ?_⟩
  refine wr_at (A := []) (u := min 1073741824 (f i + g i)) rfl i1_len (by rw [rowF_len]) (by rw [rowF_len]; omega) ?_
  have hset : (rowF n fun x => if x < i then min NV (f x + g x) else 0).set i (min 1073741824 (f i + g i)) = rowF n fun x => if x < i + 1 then min NV (f x + g x) else 0 := by
    rw [rowF_set]
    refine rowF_congr fun x hx => ?_
    by_cases e : x = i
    · subst e
      rw [if_pos rfl, if_pos (by omega)]
      rfl
    · rw [if_neg e]
      by_cases e2 : x < i
      · rw [if_pos e2, if_pos (by omega)]
      · rw [if_neg e2, if_neg (by omega)]
  rw [hset]
  simp (config := { maxSteps := 4000000 }) only [↓sx0, ↓sx1, ↓sx2, ↓sx3, ↓sx4, ↓sx5, ↓sx6, sx0, sx1, sx2, sx3, sx4, sx5, sx6, tf80, ev3_hold, sxo, sxc, sxp, sxq, sxr, sxs, sxl, sxm, simprocAttr, e8]
  exact ⟨i + 1, _, rfl, HImp.refl _ _, ⟨by omega, rfl⟩, by omega⟩
theorem setStep {α : Type} {n i : Nat} (f h : Nat → α) {v : α} (hv : v = f i) : (rowF n fun x => if x < i then f x else h x).set i v = rowF n fun x => if x < i + 1 then f x else h x := by
  rw [rowF_set]
  refine rowF_congr fun x hx => ?_
  by_cases e : x = i
  · subst e
    rw [if_pos rfl, if_pos (by omega), hv]
  · rw [if_neg e]
    by_cases e2 : x < i
    · rw [if_pos e2, if_pos (by omega)]
    · rw [if_neg e2, if_neg (by omega)]
theorem rep3_fn (w : World) (b n : Nat) (hn : n < 200) (h1 : 1 ≤ n) (hv : Sl w (.slice (some ⟨b, 0, none⟩) 1 1) 1 (ints [1073741824])) : SX.Fn Tryz.prog 120 [.slice (some ⟨b, 0, none⟩) 1 1, I n] w (fun _ => False) fun r N => ∃ b, r = .slice (some ⟨b, 0, none⟩) n n ∧ HO.row (.slice (some ⟨b, 0, none⟩) n n) 3 1 (ints (rowF n fun _ => NV)) ∈ N := by
  have h := repeat_fn w _ 1073741824 n hv hn h1
  rw [rowF_rep] at h
  exact h
theorem steps3_fn (w : World) (bs : Nat) (d : Dis) (hs : SeaOk w bs d) (hok : d.c.ok) (p : Nat → Int) (f : Nat → Int) (vr : Value) (hr : Sl w vr 1 (ints (rowF d.c.depth.length f))) :
    SX.Fn Tryz.prog 79 [.pointer (some ⟨bs, 0, none⟩), vr] w (fun _ => False) fun q N => ∃ b, q = .slice (some ⟨b, 0, none⟩) d.c.depth.length d.c.depth.length ∧ HO.row (.slice (some ⟨b, 0, none⟩) d.c.depth.length d.c.depth.length) 3 1 (ints (rowF d.c.depth.length fun a => (d.crs p).mins f a d.c.depth.length)) ∈ N := by
  obtain ⟨sD, sT, sS, sR, vA, vF, vX, hcel, hc, hsR, hA, hF, hX⟩ := hs
  obtain ⟨ps, aA, cA, rfl, hpl, hsA, hAt⟩ := hA.at i1_len (by decide)
  have hAl : (apL d.c).length = d.c.depth.length := rowF_len _ _
  have hap := fun a (h : a < d.c.depth.length) => ap_get d.c h
  have hap2 := fun a b (h : b < d.c.depth.length) => ap_get2 d.c a h
  obtain ⟨_, _, hW, hH, hlen⟩ := hok.dims
  have h144 : d.c.depth.length ≤ 144 := by rw [hlen]; exact Nat.le_trans (Nat.mul_le_mul hW.2 hH.2) (by decide)
  have h1 : 1 ≤ d.c.depth.length := by rw [hlen]; exact Nat.mul_le_mul hW.1 hH.1
  obtain ⟨ar, nr, cr, rfl⟩ := hr.shape
  have hnr := hr.le i1_len (by omega)
  rw [rowF_len] at hnr
  subst hnr
  have hrr := fun H => hr.rd0 H
  have hrA := fun H => hsA.rd0 H
  have hc8 := hcel 8 _ rfl
  have hc6 := hcel 6 _ rfl
  obtain ⟨n, hn⟩ : ∃ n, d.c.depth.length = n := ⟨_, rfl⟩
  have hnrx : ∀ x y, x < n → y < n → (d.crs p).nr x y = decide ((dst d.c.W d.c.H x y : Int) ≤ d.pc) := fun x y hx hy => by
    show (decide (x < d.c.depth.length ∧ y < d.c.depth.length) && _) = _
    rw [decide_eq_true (by omega), Bool.true_and]
  obtain ⟨g, hg⟩ : ∃ g, d.crs p = g := ⟨_, rfl⟩
  rw [hg] at hnrx ⊢
  rw [hAl] at hpl hsA hc8
  rw [hn] at h144 h1 hpl hsA hc8 ⊢
  simp only [hAl, hn] at hap hap2 hrr hrA
  have hm : ∀ a m, g.mins f a (m + 1) = if g.nr a m = true ∧ f m < g.mins f a m then f m else g.mins f a m := fun a m => rfl
  have hm0 : ∀ a, g.mins f a 0 = NV := fun a => rfl
  have dn : ∀ (g : Nat) (xs : List Value), det0 g xs = none := fun _ _ => rfl
  refine walk [] [] (det0_ok _ _) Tryz.func79 rfl Tryz.ntmps79 res79 (by kernel_rfl) no_facts ?_
  simp (config := { maxSteps := 4000000 }) only [↓sx0, ↓sx1, ↓sx2, ↓sx3, ↓sx4, ↓sx5, ↓sx6, sx0, sx1, sx2, sx3, sx4, sx5, sx6, tf79, ev3_hold, sxo, sxc, sxp, sxq, sxr, sxs, sxl, sxm, simprocAttr]
  intro b1
  simp (config := { maxSteps := 4000000 }) only [↓sx0, ↓sx1, ↓sx2, ↓sx3, ↓sx4, ↓sx5, ↓sx6, sx0, sx1, sx2, sx3, sx4, sx5, sx6, tf79, ev3_hold, sxo, sxc, sxp, sxq, sxr, sxs, sxl, sxm, simprocAttr, dn]
  refine CallOb.pureH (fun w' hp => rep3_fn w' b1 n (by omega) h1 (row_hp (E := 3) List.mem_cons_self hp)) ?_
  rintro q N ⟨b, rfl, hN⟩
  refine ⟨?_⟩
  simp (config := { maxSteps := 4000000 }) only [↓sx0, ↓sx1, ↓sx2, ↓sx3, ↓sx4, ↓sx5, ↓sx6, sx0, sx1, sx2, sx3, sx4, sx5, sx6, tf79, ev3_hold, sxo, sxc, sxp, sxq, sxr, sxs, sxl, sxm, simprocAttr]
  refine loop_constH [HO.row (.slice (some ⟨b, 0, none⟩) n n) 3 1 (ints (rowF n fun x => if x < 0 then g.mins f x n else NV))] (HImp.pick (List.mem_append_left _ hN)) [(6, 8), (15, 54)] (fun i : Nat => [(15, I i)]) (fun i H1 => i ≤ n ∧ H1 = [HO.row (.slice (some ⟨b, 0, none⟩) n n) 3 1 (ints (rowF n fun x => if x < i then g.mins f x n else NV))]) (fun i => n - i) 0 ?_ ⟨by omega, rfl⟩ ?_
  · simp (config := { maxSteps := 4000000 }) only [↓sx0, ↓sx1, ↓sx2, ↓sx3, ↓sx4, ↓sx5, ↓sx6, sx0, sx1, sx2, sx3, sx4, sx5, sx6, tf79, ev3_hold, sxo, sxc, sxp, sxq, sxr, sxs, sxl, sxm, simprocAttr]
    try simp
  rintro i H1 g1 ⟨hi, rfl⟩
  by_cases hin : i = n
  · have e7 : ((i : Int) < (n : Int)) = False := eq_false (by omega)
    refine ⟨?_⟩
    simp (config := { maxSteps := 4000000 }) only [↓sx0, ↓sx1, ↓sx2, ↓sx3, ↓sx4, ↓sx5, ↓sx6, sx0, sx1, sx2, sx3, sx4, sx5, sx6, tf79, ev3_hold, sxo, sxc, sxp, sxq, sxr, sxs, sxl, sxm, simprocAttr, e7]
    refine ⟨b, rfl, ?_⟩
    rw [rowF_congr (g := fun x => g.mins f x n) fun x hx => if_pos (by omega)]
    exact List.mem_cons_self
  have e7 : ((i : Int) < (n : Int)) = True := eq_true (by omega)
  have e8 : wr (i + 1) = ((i + 1 : Nat) : Int) := (wrap_id (by omega)).trans (by omega)
  obtain ⟨a2, c2, hpi, hs2⟩ := hAt i _ (hap i (show i < n by omega))
  have hal : (apRow d.c i).length = n := by rw [← hn]; exact rowF_len _ _
  have hr2 := hs2.rd0
  rw [hal] at hpi hr2
  refine ⟨?_⟩
  simp (config := { maxSteps := 4000000 }) only [↓sx0, ↓sx1, ↓sx2, ↓sx3, ↓sx4, ↓sx5, ↓sx6, sx0, sx1, sx2, sx3, sx4, sx5, sx6, tf79, ev3_hold, sxo, sxc, sxp, sxq, sxr, sxs, sxl, sxm, simprocAttr, e7]
  refine loop_constH [HO.row (.slice (some ⟨b, 0, none⟩) n n) 3 1 (ints (rowF n fun x => if x < i then g.mins f x n else if x = i then g.mins f i 0 else NV))] ?_ [(7, 8), (20, 53)] (fun k : Nat => [(20, I k)]) (fun k H1 => k ≤ n ∧ H1 = [HO.row (.slice (some ⟨b, 0, none⟩) n n) 3 1 (ints (rowF n fun x => if x < i then g.mins f x n else if x = i then g.mins f i k else NV))]) (fun k => n - k) 0 ?_ ⟨by omega, rfl⟩ ?_
  · rw [rowF_congr (n := n) (f := fun x => if x < i then g.mins f x n else if x = i then g.mins f i 0 else NV) (g := fun x => if x < i then g.mins f x n else NV) fun x hx => by rw [hm0]; simp]
    exact HImp.refl _ _
  · simp (config := { maxSteps := 4000000 }) only [↓sx0, ↓sx1, ↓sx2, ↓sx3, ↓sx4, ↓sx5, ↓sx6, sx0, sx1, sx2, sx3, sx4, sx5, sx6, tf79, ev3_hold, sxo, sxc, sxp, sxq, sxr, sxs, sxl, sxm, simprocAttr]
    try simp
  rintro k H2 g2 ⟨hk, rfl⟩
  by_cases hkn : k = n
  · have f7 : ((k : Int) < (n : Int)) = False := eq_false (by omega)
    refine ⟨?_⟩
    simp (config := { maxSteps := 4000000 }) only [↓sx0, ↓sx1, ↓sx2, ↓sx3, ↓sx4, ↓sx5, ↓sx6, sx0, sx1, sx2, sx3, sx4, sx5, sx6, tf79, ev3_hold, sxo, sxc, sxp, sxq, sxr, sxs, sxl, sxm, simprocAttr, f7, e8]
    refine ⟨i + 1, _, rfl, HImp.refl _ _, ⟨by omega, ?_⟩, by omega⟩
    rw [rowF_congr (n := n) (f := fun x => if x < i then g.mins f x n else if x = i then g.mins f i k else NV) (g := fun x => if x < i + 1 then g.mins f x n else NV) fun x hx => ?_]
    by_cases e1 : x < i
    · rw [if_pos e1, if_pos (by omega)]
    · rw [if_neg e1]
      by_cases e2 : x = i
      · rw [if_pos e2, if_pos (by omega), e2, hkn]
      · rw [if_neg e2, if_neg (by omega)]
  have f7 : ((k : Int) < (n : Int)) = True := eq_true (by omega)
  have f8 : wr (k + 1) = ((k + 1 : Nat) : Int) := (wrap_id (by omega)).trans (by omega)
  have hmk := hm i k
  rw [hnrx i k (by omega) (by omega)] at hmk
  have hrow : (rowF n fun x => if x < i then g.mins f x n else if x = i then g.mins f i k else NV)[i]? = some (g.mins f i k) := by
    rw [rowF_get _ (by omega), if_neg (by omega), if_pos rfl]
  have hkeep : g.mins f i (k + 1) = g.mins f i k → (rowF n fun x => if x < i then g.mins f x n else if x = i then g.mins f i k else NV) = rowF n fun x => if x < i then g.mins f x n else if x = i then g.mins f i (k + 1) else NV := fun h => by rw [h]
  have hput : g.mins f i (k + 1) = f k → (rowF n fun x => if x < i then g.mins f x n else if x = i then g.mins f i k else NV).set i (f k) = rowF n fun x => if x < i then g.mins f x n else if x = i then g.mins f i (k + 1) else NV := fun h => by
    rw [rowF_set]
    refine rowF_congr fun x hx => ?_
    by_cases e : x = i
    · subst e
      rw [if_pos rfl, if_neg (by omega), if_pos rfl, h]
    · rw [if_neg e, if_neg e, if_neg e]
  obtain ⟨R0, hR0⟩ : ∃ R0, (rowF n fun x => if x < i then g.mins f x n else if x = i then g.mins f i k else NV) = R0 := ⟨_, rfl⟩
  have hR0l : R0.length = n := by rw [← hR0, rowF_len]
  rw [hR0] at hrow hkeep hput ⊢
  obtain ⟨M, hM⟩ : ∃ M, g.mins f i k = M := ⟨_, rfl⟩
  rw [hM] at hmk hrow hkeep
  have hRr : Rdv ⟨w, fun _ => False⟩ [HO.row (.slice (some ⟨b, 0, none⟩) n n) 3 1 (ints R0)] (.slice (some ⟨b, 0, none⟩) n n) 1 (ints R0) := row_rdv List.mem_cons_self ⟨_, _, _, rfl, by rw [cat_len i1_len, hR0l], fun h => by cases h⟩
  by_cases hlt : f k < M
  case neg =>
    have p1 : (f k < M) = False := eq_false hlt
    rw [if_neg (fun h => hlt h.2)] at hmk
    refine ⟨?_⟩
    simp (config := { maxSteps := 4000000 }) only [↓sx0, ↓sx1, ↓sx2, ↓sx3, ↓sx4, ↓sx5, ↓sx6, sx0, sx1, sx2, sx3, sx4, sx5, sx6, tf79, ev3_hold, sxo, sxc, sxp, sxq, sxr, sxs, sxl, sxm, simprocAttr, f7]
    refine amid (at_1 (hrr _) i1_len (rowF_get f (show k < n by omega)) rfl fun ad1 => ?_)
    simp (config := { maxSteps := 4000000 }) only [↓sx0, ↓sx1, ↓sx2, ↓sx3, ↓sx4, ↓sx5, ↓sx6, sx0, sx1, sx2, sx3, sx4, sx5, sx6, tf79, ev3_hold, sxo, sxc, sxp, sxq, sxr, sxs, sxl, sxm, simprocAttr]
    refine at_1 hRr i1_len hrow rfl fun ad2 => ?_
    simp (config := { maxSteps := 4000000 }) only [↓sx0, ↓sx1, ↓sx2, ↓sx3, ↓sx4, ↓sx5, ↓sx6, sx0, sx1, sx2, sx3, sx4, sx5, sx6, tf79, ev3_hold, sxo, sxc, sxp, sxq, sxr, sxs, sxl, sxm, simprocAttr, p1, f8]
    exact ⟨k + 1, _, rfl, HImp.refl _ _, ⟨by omega, by rw [hkeep hmk]⟩, by omega⟩
  have p1 : (f k < M) = True := eq_true hlt
  by_cases hnear : (dst d.c.W d.c.H i k : Int) ≤ d.pc
  case neg =>
    have p2 : ((dst d.c.W d.c.H i k : Int) ≤ d.pc) = False := eq_false hnear
    rw [decide_eq_false hnear, if_neg (fun h => by cases h.1)] at hmk
    refine ⟨?_⟩
    simp (config := { maxSteps := 4000000 }) only [↓sx0, ↓sx1, ↓sx2, ↓sx3, ↓sx4, ↓sx5, ↓sx6, sx0, sx1, sx2, sx3, sx4, sx5, sx6, tf79, ev3_hold, sxo, sxc, sxp, sxq, sxr, sxs, sxl, sxm, simprocAttr, f7]
    refine amid (at_1 (hrr _) i1_len (rowF_get f (show k < n by omega)) rfl fun ad1 => ?_)
    simp (config := { maxSteps := 4000000 }) only [↓sx0, ↓sx1, ↓sx2, ↓sx3, ↓sx4, ↓sx5, ↓sx6, sx0, sx1, sx2, sx3, sx4, sx5, sx6, tf79, ev3_hold, sxo, sxc, sxp, sxq, sxr, sxs, sxl, sxm, simprocAttr]
    refine at_1 hRr i1_len hrow rfl fun ad2 => ?_
    simp (config := { maxSteps := 4000000 }) only [↓sx0, ↓sx1, ↓sx2, ↓sx3, ↓sx4, ↓sx5, ↓sx6, sx0, sx1, sx2, sx3, sx4, sx5, sx6, tf79, ev3_hold, sxo, sxc, sxp, sxq, sxr, sxs, sxl, sxm, simprocAttr, p1]
    refine ld_olda (b := bs) (o := 8) rfl hc8 id ?_
    simp (config := { maxSteps := 4000000 }) only [↓sx0, ↓sx1, ↓sx2, ↓sx3, ↓sx4, ↓sx5, ↓sx6, sx0, sx1, sx2, sx3, sx4, sx5, sx6, tf79, ev3_hold, sxo, sxc, sxp, sxq, sxr, sxs, sxl, sxm, simprocAttr]
    refine at_1 (hrA _) lpc_len hpi rfl fun ad3 => ?_
    simp (config := { maxSteps := 4000000 }) only [↓sx0, ↓sx1, ↓sx2, ↓sx3, ↓sx4, ↓sx5, ↓sx6, sx0, sx1, sx2, sx3, sx4, sx5, sx6, tf79, ev3_hold, sxo, sxc, sxp, sxq, sxr, sxs, sxl, sxm, simprocAttr]
    refine at_1 (hr2 _) i1_len (hap2 i k (show k < n by omega)) rfl fun ad4 => ?_
    refine ld_olda (b := bs) (o := 6) rfl hc6 id ?_
    simp (config := { maxSteps := 4000000 }) only [↓sx0, ↓sx1, ↓sx2, ↓sx3, ↓sx4, ↓sx5, ↓sx6, sx0, sx1, sx2, sx3, sx4, sx5, sx6, tf79, ev3_hold, sxo, sxc, sxp, sxq, sxr, sxs, sxl, sxm, simprocAttr, p2, f8]
    exact ⟨k + 1, _, rfl, HImp.refl _ _, ⟨by omega, by rw [hkeep hmk]⟩, by omega⟩
  have p2 : ((dst d.c.W d.c.H i k : Int) ≤ d.pc) = True := eq_true hnear
  rw [decide_eq_true hnear, if_pos ⟨rfl, hlt⟩] at hmk
  refine ⟨?_⟩
  simp (config := { maxSteps := 4000000 }) only [↓sx0, ↓sx1, ↓sx2, ↓sx3, ↓sx4, ↓sx5, ↓sx6, sx0, sx1, sx2, sx3, sx4, sx5, sx6, tf79, ev3_hold, sxo, sxc, sxp, sxq, sxr, sxs, sxl, sxm, simprocAttr, f7]
  refine amid (at_1 (hrr _) i1_len (rowF_get f (show k < n by omega)) rfl fun ad1 => ?_)
  simp (config := { maxSteps := 4000000 }) only [↓sx0, ↓sx1, ↓sx2, ↓sx3, ↓sx4, ↓sx5, ↓sx6, sx0, sx1, sx2, sx3, sx4, sx5, sx6, tf79, ev3_hold, sxo, sxc, sxp, sxq, sxr, sxs, sxl, sxm, simprocAttr]
  refine at_1 hRr i1_len hrow rfl fun ad2 => ?_
  simp (config := { maxSteps := 4000000 }) only [↓sx0, ↓sx1, ↓sx2, ↓sx3, ↓sx4, ↓sx5, ↓sx6, sx0, sx1, sx2, sx3, sx4, sx5, sx6, tf79, ev3_hold, sxo, sxc, sxp, sxq, sxr, sxs, sxl, sxm, simprocAttr, p1]
  refine ld_olda (b := bs) (o := 8) rfl hc8 id ?_
  simp (config := { maxSteps := 4000000 }) only [↓sx0, ↓sx1, ↓sx2, ↓sx3, ↓sx4, ↓sx5, ↓sx6, sx0, sx1, sx2, sx3, sx4, sx5, sx6, tf79, ev3_hold, sxo, sxc, sxp, sxq, sxr, sxs, sxl, sxm, simprocAttr]
  refine at_1 (hrA _) lpc_len hpi rfl fun ad3 => ?_
  simp (config := { maxSteps := 4000000 }) only [↓sx0, ↓sx1, ↓sx2, ↓sx3, ↓sx4, ↓sx5, ↓sx6, sx0, sx1, sx2, sx3, sx4, sx5, sx6, tf79, ev3_hold, sxo, sxc, sxp, sxq, sxr, sxs, sxl, sxm, simprocAttr]
  refine at_1 (hr2 _) i1_len (hap2 i k (show k < n by omega)) rfl fun ad4 => ?_
  refine ld_olda (b := bs) (o := 6) rfl hc6 id ?_
  simp (config := { maxSteps := 4000000 }) only [↓sx0, ↓sx1, ↓sx2, ↓sx3, ↓sx4, ↓sx5, ↓sx6, sx0, sx1, sx2, sx3, sx4, sx5, sx6, tf79, ev3_hold, sxo, sxc, sxp, sxq, sxr, sxs, sxl, sxm, simprocAttr, p2]
  refine ⟨by omega, by omega, _, rfl, ?_⟩
  refine wr_at (A := []) (u := f k) rfl i1_len hR0l (by omega) ?_
  rw [hput hmk]
  simp (config := { maxSteps := 4000000 }) only [↓sx0, ↓sx1, ↓sx2, ↓sx3, ↓sx4, ↓sx5, ↓sx6, sx0, sx1, sx2, sx3, sx4, sx5, sx6, tf79, ev3_hold, sxo, sxc, sxp, sxq, sxr, sxs, sxl, sxm, simprocAttr, f8]
  exact ⟨k + 1, _, rfl, HImp.refl _ _, ⟨by omega, rfl⟩, by omega⟩
end Go.Proofs.YtnbogcpnpcbjgaaGreatDoor

