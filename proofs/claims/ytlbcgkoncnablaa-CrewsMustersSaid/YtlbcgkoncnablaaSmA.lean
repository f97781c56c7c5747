/- A part of a proof: the symbolic walk and what it shows of single functions. -/
import Derived.Test.YtlbcgkoncnablaaK6
set_option linter.all false
namespace Go.Proofs.Ytlbcgkoncnablaa
open Go.RowKit Go.SX
set_option maxRecDepth 10000
set_option maxHeartbeats 0
set_option linter.unusedSimpArgs false
set_option linter.unusedVariables false

theorem Sl.hd {w : World} {ad : Addr} {len cap m c : Nat} {xs : List Value} (h : Sl w (.slice (some ad) len cap) 1 xs) (hm : m ≤ len) (hc : len ≤ cap) : Sl w (.slice (if cap = 0 then some ad else some (ad.add 0)) m c) 1 (xs.take m) := by
  have hl := h.len
  split
  · have : xs = [] := List.eq_nil_of_length_eq_zero (by omega)
    subst this
    have hm0 : m = 0 := by omega
    subst hm0
    exact ⟨_, _, _, rfl, rfl, fun i x hi => by simp at hi⟩
  · have := Sl.pre (m := m) (c := c) h hm
    rwa [Nat.mul_one] at this

theorem Sl.tl {w : World} {ad : Addr} {len cap k c : Nat} {xs : List Value} (h : Sl w (.slice (some ad) len cap) 1 xs) (hk : k ≤ len) (hc : len ≤ cap) : Sl w (.slice (if cap = k then some ad else some (ad.add (k * 1))) (len - k) c) 1 (xs.drop k) := by
  have hl := h.len
  split
  · have : xs.drop k = [] := List.drop_of_length_le (by omega)
    rw [this]
    exact ⟨_, _, _, rfl, by simp only [List.length_nil]; omega, fun i x hi => by simp at hi⟩
  · obtain ⟨a, l, c', hv, hl', hcc⟩ := h
    cases hv
    refine ⟨_, _, _, rfl, by rw [List.length_drop, hl']; omega, fun i x hi => ?_⟩
    rw [List.getElem?_drop] at hi
    obtain ⟨ad', had, hx⟩ := hcc _ x hi
    cases had
    exact ⟨_, rfl, by rw [add_add, Nat.mul_one]; exact hx⟩

theorem rlacking_fn (w : World) (v : Value) (s : Stn) (hs : StOk w v s) (hsm : s.small) (call : Int) (vs : Value) (seats : List Int) (hvs : Sl w vs 1 (ints seats)) (len : Int) :
    SX.Fn Try.prog 39 [v, I call, vs, I len] w (fun _ => False) (LE2 (lackL s call seats len) (lackE s call seats len)) := by
  have hs0 := hs
  have hvs0 := hvs
  obtain ⟨hv, ps, rfl, hps, hsl, hlg⟩ := hs
  obtain ⟨a, n, c, rfl⟩ := hsl.shape
  obtain ⟨asx, ns, cs, rfl⟩ := hvs.shape
  have hns := hvs.le i1_len (by omega)
  subst hns
  have hrs := hvs0.rd0
  have dn : ∀ (g : Nat) (xs : List Value), det0 g xs = none := fun _ _ => rfl
  unfold lackL lackE
  refine walk [] [(14, (ones [1, 2, 3, 5, 6, 7, 8, 0, 4, 9, 10] .fin))] (det0_ok _ _) Try.func39 rfl Try.ntmps39 res39 (by kernel_rfl) no_facts ?_
  simp (config := { maxSteps := 4000000 }) only [↓sx0, ↓sx1, ↓sx2, ↓sx3, ↓sx4, ↓sx5, ↓sx6, sx0, sx1, sx2, sx3, sx4, sx5, sx6, tf39, ev3_hold, sxo, sxc, sxp, sxq, sxr, sxs, sxl, sxm, Int.reduceBEq, Int.reduceBNe, Int.reduceLT, Int.reduceLE, Int.reduceEq, Int.reduceGT, Int.reduceGE, Int.reduceToNat, ↓reduceIte, List.reduceReplicate, Nat.reduceAdd, Nat.reduceSub, Nat.reduceMul, Nat.reduceLT, Nat.reduceLeDiff, Nat.reduceBEq, Nat.reduceEqDiff, dn]
  refine CallOb.pureH (fun w' hp => rcseats_fn w' _ s (hs0.hp hp) hsm call _ seats (hvs0.hp (fun _ _ => id) hp) len) ?_
  rintro r N rfl
  by_cases he : callE s call seats len = 0
  case neg =>
    have e1 : (callE s call seats len = 0) = False := eq_false he
    rw [if_neg he, if_neg he]
    refine ⟨?_⟩
    simp (config := { maxSteps := 4000000 }) only [↓sx0, ↓sx1, ↓sx2, ↓sx3, ↓sx4, ↓sx5, ↓sx6, sx0, sx1, sx2, sx3, sx4, sx5, sx6, tf39, ev3_hold, sxo, sxc, sxp, sxq, sxr, sxs, sxl, sxm, Int.reduceBEq, Int.reduceBNe, Int.reduceLT, Int.reduceLE, Int.reduceEq, Int.reduceGT, Int.reduceGE, Int.reduceToNat, ↓reduceIte, List.reduceReplicate, Nat.reduceAdd, Nat.reduceSub, Nat.reduceMul, Nat.reduceLT, Nat.reduceLeDiff, Nat.reduceBEq, Nat.reduceEqDiff, e1]
    exact ⟨_, rfl, Got.nil _⟩
  have hz := callE_zero he
  obtain ⟨hok, hc, hl, hsl5, _⟩ := hz
  have hmu := fun (H : List HO) w' (hp : Hp ⟨w, fun _ => False⟩ H w') (vs : Value) (seats : List Int) (hvs : Sl w' vs 1 (ints seats)) (hb : seats.length ≤ 1000) => rmus_fn w' _ s (hs0.hp hp) hok call len hc hl vs seats hvs hb
  have hmg := fun seats => rmusG_eq hok hc hl seats
  simp only [hmg] at hmu
  rw [if_pos he, he]
  refine ⟨?_⟩
  simp (config := { maxSteps := 4000000 }) only [↓sx0, ↓sx1, ↓sx2, ↓sx3, ↓sx4, ↓sx5, ↓sx6, sx0, sx1, sx2, sx3, sx4, sx5, sx6, tf39, ev3_hold, sxo, sxc, sxp, sxq, sxr, sxs, sxl, sxm, Int.reduceBEq, Int.reduceBNe, Int.reduceLT, Int.reduceLE, Int.reduceEq, Int.reduceGT, Int.reduceGE, Int.reduceToNat, ↓reduceIte, List.reduceReplicate, Nat.reduceAdd, Nat.reduceSub, Nat.reduceMul, Nat.reduceLT, Nat.reduceLeDiff, Nat.reduceBEq, Nat.reduceEqDiff, dn]
  refine CallOb.pureH (fun w' hp => hmu _ w' hp _ seats (hvs0.hp (fun _ _ => id) hp) (by omega)) ?_
  rintro r N2 (⟨h3, rfl⟩ | ⟨j, l, x, h3, rfl, h4⟩)
  case inr =>
    rw [h3]
    refine ⟨?_⟩
    simp (config := { maxSteps := 4000000 }) only [↓sx0, ↓sx1, ↓sx2, ↓sx3, ↓sx4, ↓sx5, ↓sx6, sx0, sx1, sx2, sx3, sx4, sx5, sx6, tf39, ev3_hold, sxo, sxc, sxp, sxq, sxr, sxs, sxl, sxm, Int.reduceBEq, Int.reduceBNe, Int.reduceLT, Int.reduceLE, Int.reduceEq, Int.reduceGT, Int.reduceGE, Int.reduceToNat, ↓reduceIte, List.reduceReplicate, Nat.reduceAdd, Nat.reduceSub, Nat.reduceMul, Nat.reduceLT, Nat.reduceLeDiff, Nat.reduceBEq, Nat.reduceEqDiff]
    exact ⟨_, rfl, Got.nil _⟩
  rw [h3]
  simp only [Option.isSome_none, Bool.false_eq_true, if_false, if_true]
  obtain ⟨T, hT⟩ : ∃ T, crewT s call len seats = T := ⟨_, rfl⟩
  have hTe : ∀ l, T l = (musG s call len (pickS seats l)).isSome := fun l => by rw [← hT]; rfl
  rw [hT]
  generalize hnn : seats.length = n at *
  refine ⟨?_⟩
  simp (config := { maxSteps := 4000000 }) only [↓sx0, ↓sx1, ↓sx2, ↓sx3, ↓sx4, ↓sx5, ↓sx6, sx0, sx1, sx2, sx3, sx4, sx5, sx6, tf39, ev3_hold, sxo, sxc, sxp, sxq, sxr, sxs, sxl, sxm, Int.reduceBEq, Int.reduceBNe, Int.reduceLT, Int.reduceLE, Int.reduceEq, Int.reduceGT, Int.reduceGE, Int.reduceToNat, ↓reduceIte, List.reduceReplicate, Nat.reduceAdd, Nat.reduceSub, Nat.reduceMul, Nat.reduceLT, Nat.reduceLeDiff, Nat.reduceBEq, Nat.reduceEqDiff]
  refine loop_constH [.row (.slice none 0 0) 3 1 []] ((HImp.nil _ _).trans (HImp.nilRow _ _ _ _)) [(14, 15), (41, 50)] (fun q : Nat × Option Addr × Nat => [(14, .slice q.2.1 q.1 q.2.2), (15, I q.1)])
    (fun q H1 => q.1 ≤ n ∧ (q.2.1 = none → q.1 = 0) ∧ q.1 ≤ q.2.2 ∧ H1 = [.row (.slice q.2.1 q.1 q.2.2) 3 1 (ints (natI q.1))]) (fun q => n - q.1) (0, none, 0) ?_ ⟨Nat.zero_le _, fun _ => rfl, Nat.le_refl _, rfl⟩ ?_
  · simp (config := { maxSteps := 4000000 }) only [↓sx0, ↓sx1, ↓sx2, ↓sx3, ↓sx4, ↓sx5, ↓sx6, sx0, sx1, sx2, sx3, sx4, sx5, sx6, tf39, ev3_hold, sxo, sxc, sxp, sxq, sxr, sxs, sxl, sxm, Int.reduceBEq, Int.reduceBNe, Int.reduceLT, Int.reduceLE, Int.reduceEq, Int.reduceGT, Int.reduceGE, Int.reduceToNat, ↓reduceIte, List.reduceReplicate, Nat.reduceAdd, Nat.reduceSub, Nat.reduceMul, Nat.reduceLT, Nat.reduceLeDiff, Nat.reduceBEq, Nat.reduceEqDiff]
    try simp
  rintro ⟨i, al, cl⟩ H1 g1 hinv
  simp only [] at hinv
  obtain ⟨hi, hnil, hcap, rfl⟩ := hinv
  by_cases hin : i = n
  case neg =>
    have e7 : ((i : Int) < (n : Int)) = True := eq_true (by omega)
    have e2 : wr (i + 1) = ((i + 1 : Nat) : Int) := (wrap_id (by omega)).trans (by omega)
    refine ⟨?_⟩
    simp (config := { maxSteps := 4000000 }) only [↓sx0, ↓sx1, ↓sx2, ↓sx3, ↓sx4, ↓sx5, ↓sx6, sx0, sx1, sx2, sx3, sx4, sx5, sx6, tf39, ev3_hold, sxo, sxc, sxp, sxq, sxr, sxs, sxl, sxm, Int.reduceBEq, Int.reduceBNe, Int.reduceLT, Int.reduceLE, Int.reduceEq, Int.reduceGT, Int.reduceGE, Int.reduceToNat, ↓reduceIte, List.reduceReplicate, Nat.reduceAdd, Nat.reduceSub, Nat.reduceMul, Nat.reduceLT, Nat.reduceLeDiff, Nat.reduceBEq, Nat.reduceEqDiff, e7]
    intro b
    refine app_oneC (l := natI i) (A := []) (i : Int) (HImp.refl _ _) i1_len i1_one (by rw [natI_len]; omega) fun ad2 c2 hc2 => ?_
    rw [natI_len] at hc2
    rw [natI_len, ← natI_succ]
    simp (config := { maxSteps := 4000000 }) only [↓sx0, ↓sx1, ↓sx2, ↓sx3, ↓sx4, ↓sx5, ↓sx6, sx0, sx1, sx2, sx3, sx4, sx5, sx6, tf39, ev3_hold, sxo, sxc, sxp, sxq, sxr, sxs, sxl, sxm, Int.reduceBEq, Int.reduceBNe, Int.reduceLT, Int.reduceLE, Int.reduceEq, Int.reduceGT, Int.reduceGE, Int.reduceToNat, ↓reduceIte, List.reduceReplicate, Nat.reduceAdd, Nat.reduceSub, Nat.reduceMul, Nat.reduceLT, Nat.reduceLeDiff, Nat.reduceBEq, Nat.reduceEqDiff, e2]
    exact ⟨(i + 1, some ad2, c2), _, ⟨rfl, rfl⟩, HImp.refl _ _, ⟨by simp only []; omega, fun h => (by cases h), hc2, rfl⟩, by simp only []; omega⟩
  have hin' : n = i := hin.symm
  subst hin'
  have e7 : ((n : Int) < (n : Int)) = False := eq_false (by omega)
  refine ⟨?_⟩
  simp (config := { maxSteps := 4000000 }) only [↓sx0, ↓sx1, ↓sx2, ↓sx3, ↓sx4, ↓sx5, ↓sx6, sx0, sx1, sx2, sx3, sx4, sx5, sx6, tf39, ev3_hold, sxo, sxc, sxp, sxq, sxr, sxs, sxl, sxm, Int.reduceBEq, Int.reduceBNe, Int.reduceLT, Int.reduceLE, Int.reduceEq, Int.reduceGT, Int.reduceGE, Int.reduceToNat, ↓reduceIte, List.reduceReplicate, Nat.reduceAdd, Nat.reduceSub, Nat.reduceMul, Nat.reduceLT, Nat.reduceLeDiff, Nat.reduceBEq, Nat.reduceEqDiff, e7]
  refine loop_constH [.row (.slice al n cl) 3 1 (ints (natI n))] (HImp.refl _ _) [(14, 14), (16, 22), (51, 93)] (fun q : Nat × Option Addr × Nat => [(14, .slice q.2.1 (leftL T n q.1).length q.2.2), (16, I ((keptL T n q.1).length : Nat))])
    (fun q H1 => q.1 ≤ n ∧ (q.2.1 = none → leftL T n q.1 = []) ∧ (leftL T n q.1).length ≤ q.2.2 ∧ H1 = [.row (.slice q.2.1 (leftL T n q.1).length q.2.2) 3 1 (ints (leftL T n q.1))]) (fun q => n - q.1) (0, al, cl) ?_ ⟨Nat.zero_le _, fun h => List.eq_nil_of_length_eq_zero (by rw [leftL_zero, natI_len]; exact hnil h), by rw [leftL_zero, natI_len]; exact hcap, by rw [leftL_zero, natI_len]⟩ ?_
  · simp (config := { maxSteps := 4000000 }) only [↓sx0, ↓sx1, ↓sx2, ↓sx3, ↓sx4, ↓sx5, ↓sx6, sx0, sx1, sx2, sx3, sx4, sx5, sx6, tf39, ev3_hold, sxo, sxc, sxp, sxq, sxr, sxs, sxl, sxm, Int.reduceBEq, Int.reduceBNe, Int.reduceLT, Int.reduceLE, Int.reduceEq, Int.reduceGT, Int.reduceGE, Int.reduceToNat, ↓reduceIte, List.reduceReplicate, Nat.reduceAdd, Nat.reduceSub, Nat.reduceMul, Nat.reduceLT, Nat.reduceLeDiff, Nat.reduceBEq, Nat.reduceEqDiff]
    simp [leftL_zero, natI_len, keptL]
  rintro ⟨i, al2, cl2⟩ H2 g2 hinv2
  simp only [] at hinv2
  obtain ⟨hi2, hnil2, hcap2, rfl⟩ := hinv2
  have hll := leftL_len (T := T) hi2
  have hkl := keptL_len (T := T) (n := n) i
  by_cases hin2 : i = n
  · have hin3 : n = i := hin2.symm
    subst hin3
    have hle := leftL_end T n
    have e8 : (((keptL T n n).length : Int) < ((keptL T n n).length : Int)) = False := eq_false (by omega)
    rw [hle] at hnil2 ⊢
    refine ⟨?_⟩
    simp (config := { maxSteps := 4000000 }) only [↓sx0, ↓sx1, ↓sx2, ↓sx3, ↓sx4, ↓sx5, ↓sx6, sx0, sx1, sx2, sx3, sx4, sx5, sx6, tf39, ev3_hold, sxo, sxc, sxp, sxq, sxr, sxs, sxl, sxm, Int.reduceBEq, Int.reduceBNe, Int.reduceLT, Int.reduceLE, Int.reduceEq, Int.reduceGT, Int.reduceGE, Int.reduceToNat, ↓reduceIte, List.reduceReplicate, Nat.reduceAdd, Nat.reduceSub, Nat.reduceMul, Nat.reduceLT, Nat.reduceLeDiff, Nat.reduceBEq, Nat.reduceEqDiff, e8]
    exact ⟨_, rfl, Got.row rfl List.mem_cons_self hnil2⟩
  have hil : i < n := by omega
  have hcons := leftL_cons (T := T) hil
  have hkS : keptL T n (i + 1) = if T (keptL T n i ++ (natI n).drop (i + 1)) then keptL T n i ++ [(i : Int)] else keptL T n i := rfl
  have hRm : ∀ y ∈ keptL T n i ++ (natI n).drop (i + 1), 0 ≤ y ∧ y < n := fun y hy => by
    rcases List.mem_append.1 hy with h | h
    · have := keptL_mem h
      omega
    · have := natI_mem h
      omega
  have hyes := leftL_yes (T := T) hil
  have hno := leftL_no (T := T) (n := n) (i := i)
  obtain ⟨KL, hKL⟩ : ∃ KL, keptL T n i = KL := ⟨_, rfl⟩
  obtain ⟨RL, hRL⟩ : ∃ RL, (natI n).drop (i + 1) = RL := ⟨_, rfl⟩
  rw [hKL, hRL] at hcons hyes hno hkS hRm
  rw [hKL] at hkl ⊢
  obtain ⟨m, hm⟩ : ∃ m, (leftL T n i).length = m := ⟨_, rfl⟩
  have hmc : KL.length + 1 + RL.length = m := by rw [← hm, hcons, List.length_append, List.length_cons]; omega
  have e8 : ((KL.length : Int) < (m : Int)) = True := eq_true (by omega)
  have e9 : wr ((KL.length : Int) + 1) = ((KL.length + 1 : Nat) : Int) := (wrap_id (by omega)).trans (by omega)
  cases al2 with
  | none =>
    have := hnil2 rfl
    rw [hcons] at this
    simp at this
  | some adl =>
  rw [hm] at hcap2 ⊢
  have h1 : ∀ w', Hp ⟨w, fun _ => False⟩ [HO.row (.slice (some adl) m cl2) 3 1 (ints (leftL T n i))] w' → True := fun _ _ => trivial
  have hcat1 : (ints (leftL T n i)).take KL.length = ints KL := by
    have h2 : ints (leftL T n i) = ints KL ++ ints ((i : Int) :: RL) := by rw [hcons]; exact cat_append _ _ _
    rw [h2]
    exact List.take_left' (by rw [cat_len i1_len, Nat.mul_one])
  have hcat2 : (ints (leftL T n i)).drop (KL.length + 1) = ints RL := by
    have h2 : ints (leftL T n i) = ints (KL ++ [(i : Int)]) ++ ints RL := by
      have h3 : leftL T n i = (KL ++ [(i : Int)]) ++ RL := by rw [hcons, List.append_assoc]; rfl
      rw [h3]
      exact cat_append _ _ _
    rw [h2]
    exact List.drop_left' (by rw [cat_len i1_len, List.length_append, List.length_singleton, Nat.mul_one])
  refine ⟨?_⟩
  simp (config := { maxSteps := 4000000 }) only [↓sx0, ↓sx1, ↓sx2, ↓sx3, ↓sx4, ↓sx5, ↓sx6, sx0, sx1, sx2, sx3, sx4, sx5, sx6, tf39, ev3_hold, sxo, sxc, sxp, sxq, sxr, sxs, sxl, sxm, Int.reduceBEq, Int.reduceBNe, Int.reduceLT, Int.reduceLE, Int.reduceEq, Int.reduceGT, Int.reduceGE, Int.reduceToNat, ↓reduceIte, List.reduceReplicate, Nat.reduceAdd, Nat.reduceSub, Nat.reduceMul, Nat.reduceLT, Nat.reduceLeDiff, Nat.reduceBEq, Nat.reduceEqDiff, e8, e9]
  refine ⟨by omega, by omega, fun h => h, by omega, by omega, fun b => ?_⟩
  refine app_at (f := i1) (l := []) (m := KL) (HImp.refl _ _) i1_len i1_one (fun w' hp' => by
    have := Sl.hd (m := KL.length) (c := cl2 - 0) (row_hp (E := 3) (List.mem_cons_of_mem _ List.mem_cons_self) hp') (by omega) hcap2
    rwa [hcat1] at this) (bytes := 8) (by simp only [List.length_nil]; omega) ?_
  intro ad3 c3 hnil3
  rw [List.nil_append, List.length_nil, Nat.zero_add]
  simp (config := { maxSteps := 4000000 }) only [↓sx0, ↓sx1, ↓sx2, ↓sx3, ↓sx4, ↓sx5, ↓sx6, sx0, sx1, sx2, sx3, sx4, sx5, sx6, tf39, ev3_hold, sxo, sxc, sxp, sxq, sxr, sxs, sxl, sxm, Int.reduceBEq, Int.reduceBNe, Int.reduceLT, Int.reduceLE, Int.reduceEq, Int.reduceGT, Int.reduceGE, Int.reduceToNat, ↓reduceIte, List.reduceReplicate, Nat.reduceAdd, Nat.reduceSub, Nat.reduceMul, Nat.reduceLT, Nat.reduceLeDiff, Nat.reduceBEq, Nat.reduceEqDiff]
  refine app_atC (f := i1) (l := KL) (m := RL) (HImp.refl _ _) i1_len i1_one (fun w' hp' => by
    have := Sl.tl (k := KL.length + 1) (c := cl2 - (KL.length + 1)) (row_hp (E := 3) (List.mem_cons_of_mem _ List.mem_cons_self) hp') (by omega) hcap2
    rwa [hcat2] at this) (bytes := 8) (by omega) ?_
  intro ad4 c4 hnil4 hcap4
  simp (config := { maxSteps := 4000000 }) only [↓sx0, ↓sx1, ↓sx2, ↓sx3, ↓sx4, ↓sx5, ↓sx6, sx0, sx1, sx2, sx3, sx4, sx5, sx6, tf39, ev3_hold, sxo, sxc, sxp, sxq, sxr, sxs, sxl, sxm, Int.reduceBEq, Int.reduceBNe, Int.reduceLT, Int.reduceLE, Int.reduceEq, Int.reduceGT, Int.reduceGE, Int.reduceToNat, ↓reduceIte, List.reduceReplicate, Nat.reduceAdd, Nat.reduceSub, Nat.reduceMul, Nat.reduceLT, Nat.reduceLeDiff, Nat.reduceBEq, Nat.reduceEqDiff]
  refine loop_constH (.row (.slice none 0 0) 3 1 [] :: .row (.slice ad4 (KL.length + RL.length) c4) 3 1 (ints (KL ++ RL)) :: [.row (.slice (some adl) m cl2) 3 1 (ints (leftL T n i))]) (HImp.nilRow _ _ _ _) [(18, 19), (65, 80)] (fun q : Nat × Option Addr × Nat => [(18, .slice q.2.1 q.1 q.2.2), (19, I q.1)])
    (fun q H1 => q.1 ≤ KL.length + RL.length ∧ (q.2.1 = none → q.1 = 0) ∧ H1 = .row (.slice q.2.1 q.1 q.2.2) 3 1 (ints (pickS seats ((KL ++ RL).take q.1))) :: .row (.slice ad4 (KL.length + RL.length) c4) 3 1 (ints (KL ++ RL)) :: [.row (.slice (some adl) m cl2) 3 1 (ints (leftL T n i))]) (fun q => KL.length + RL.length - q.1) (0, none, 0) ?_ ⟨Nat.zero_le _, fun _ => rfl, rfl⟩ ?_
  · simp (config := { maxSteps := 4000000 }) only [↓sx0, ↓sx1, ↓sx2, ↓sx3, ↓sx4, ↓sx5, ↓sx6, sx0, sx1, sx2, sx3, sx4, sx5, sx6, tf39, ev3_hold, sxo, sxc, sxp, sxq, sxr, sxs, sxl, sxm, Int.reduceBEq, Int.reduceBNe, Int.reduceLT, Int.reduceLE, Int.reduceEq, Int.reduceGT, Int.reduceGE, Int.reduceToNat, ↓reduceIte, List.reduceReplicate, Nat.reduceAdd, Nat.reduceSub, Nat.reduceMul, Nat.reduceLT, Nat.reduceLeDiff, Nat.reduceBEq, Nat.reduceEqDiff]
    try simp
  rintro ⟨k, az, cs2⟩ H3 g3 hinv3
  simp only [] at hinv3
  obtain ⟨hk, hnil3, rfl⟩ := hinv3
  have hLl : (KL ++ RL).length = KL.length + RL.length := List.length_append
  have hpl : (pickS seats ((KL ++ RL).take k)).length = k := by unfold pickS; rw [List.length_map, List.length_take]; omega
  by_cases hkn2 : k = KL.length + RL.length
  case neg =>
    have e10 : ((k : Int) < ((KL.length + RL.length : Nat) : Int)) = True := eq_true (by omega)
    have e11 : wr (k + 1) = ((k + 1 : Nat) : Int) := (wrap_id (by omega)).trans (by omega)
    have hkl : k < (KL ++ RL).length := by omega
    have huk := List.getElem?_eq_getElem hkl
    have hmk2 := hRm _ (List.getElem_mem hkl)
    have htk2 : (KL ++ RL).take (k + 1) = (KL ++ RL).take k ++ [(KL ++ RL)[k]] := (List.take_append_getElem hkl).symm
    generalize (KL ++ RL)[k] = y at huk hmk2 htk2
    obtain ⟨Y, rfl⟩ : ∃ Y : Nat, y = Y := ⟨y.toNat, by omega⟩
    have hus := getD_at (show Y < seats.length by omega) 0
    have hps2 : pickS seats ((KL ++ RL).take k) ++ [seats.getD Y 0] = pickS seats ((KL ++ RL).take (k + 1)) := by
      rw [htk2]
      unfold pickS
      rw [List.map_append]
      rfl
    refine ⟨?_⟩
    simp (config := { maxSteps := 4000000 }) only [↓sx0, ↓sx1, ↓sx2, ↓sx3, ↓sx4, ↓sx5, ↓sx6, sx0, sx1, sx2, sx3, sx4, sx5, sx6, tf39, ev3_hold, sxo, sxc, sxp, sxq, sxr, sxs, sxl, sxm, Int.reduceBEq, Int.reduceBNe, Int.reduceLT, Int.reduceLE, Int.reduceEq, Int.reduceGT, Int.reduceGE, Int.reduceToNat, ↓reduceIte, List.reduceReplicate, Nat.reduceAdd, Nat.reduceSub, Nat.reduceMul, Nat.reduceLT, Nat.reduceLeDiff, Nat.reduceBEq, Nat.reduceEqDiff, e10]
    refine amid (at_1 (row_rdv (E := 3) (List.mem_cons_of_mem _ List.mem_cons_self) ⟨_, _, _, rfl, by rw [cat_len i1_len, hLl], fun h => by rw [(hnil4 h).1, (hnil4 h).2]; rfl⟩) i1_len huk rfl fun ad1 => ?_)
    simp (config := { maxSteps := 4000000 }) only [↓sx0, ↓sx1, ↓sx2, ↓sx3, ↓sx4, ↓sx5, ↓sx6, sx0, sx1, sx2, sx3, sx4, sx5, sx6, tf39, ev3_hold, sxo, sxc, sxp, sxq, sxr, sxs, sxl, sxm, Int.reduceBEq, Int.reduceBNe, Int.reduceLT, Int.reduceLE, Int.reduceEq, Int.reduceGT, Int.reduceGE, Int.reduceToNat, ↓reduceIte, List.reduceReplicate, Nat.reduceAdd, Nat.reduceSub, Nat.reduceMul, Nat.reduceLT, Nat.reduceLeDiff, Nat.reduceBEq, Nat.reduceEqDiff]
    refine at_1 (hrs _) i1_len hus rfl fun ad2 => ?_
    simp (config := { maxSteps := 4000000 }) only [↓sx0, ↓sx1, ↓sx2, ↓sx3, ↓sx4, ↓sx5, ↓sx6, sx0, sx1, sx2, sx3, sx4, sx5, sx6, tf39, ev3_hold, sxo, sxc, sxp, sxq, sxr, sxs, sxl, sxm, Int.reduceBEq, Int.reduceBNe, Int.reduceLT, Int.reduceLE, Int.reduceEq, Int.reduceGT, Int.reduceGE, Int.reduceToNat, ↓reduceIte, List.reduceReplicate, Nat.reduceAdd, Nat.reduceSub, Nat.reduceMul, Nat.reduceLT, Nat.reduceLeDiff, Nat.reduceBEq, Nat.reduceEqDiff]
    intro b4
    refine app_one (l := pickS seats ((KL ++ RL).take k)) (seats.getD Y 0) (HImp.refl _ _) i1_len i1_one (by omega) fun ad3 c3 => ?_
    rw [hpl, hps2]
    simp (config := { maxSteps := 4000000 }) only [↓sx0, ↓sx1, ↓sx2, ↓sx3, ↓sx4, ↓sx5, ↓sx6, sx0, sx1, sx2, sx3, sx4, sx5, sx6, tf39, ev3_hold, sxo, sxc, sxp, sxq, sxr, sxs, sxl, sxm, Int.reduceBEq, Int.reduceBNe, Int.reduceLT, Int.reduceLE, Int.reduceEq, Int.reduceGT, Int.reduceGE, Int.reduceToNat, ↓reduceIte, List.reduceReplicate, Nat.reduceAdd, Nat.reduceSub, Nat.reduceMul, Nat.reduceLT, Nat.reduceLeDiff, Nat.reduceBEq, Nat.reduceEqDiff, e11]
    exact ⟨(k + 1, some ad3, c3), _, ⟨rfl, rfl⟩, HImp.refl _ _, ⟨by simp only []; omega, fun h => (by cases h), rfl⟩, by simp only []; omega⟩
  have e10 : ((k : Int) < ((KL.length + RL.length : Nat) : Int)) = False := eq_false (by omega)
  rw [List.take_of_length_le (by omega)] at hpl ⊢
  have hTl := hTe (KL ++ RL)
  have hps5 : (pickS seats (KL ++ RL)).length ≤ 1000 := by omega
  refine ⟨?_⟩
  simp (config := { maxSteps := 4000000 }) only [↓sx0, ↓sx1, ↓sx2, ↓sx3, ↓sx4, ↓sx5, ↓sx6, sx0, sx1, sx2, sx3, sx4, sx5, sx6, tf39, ev3_hold, sxo, sxc, sxp, sxq, sxr, sxs, sxl, sxm, Int.reduceBEq, Int.reduceBNe, Int.reduceLT, Int.reduceLE, Int.reduceEq, Int.reduceGT, Int.reduceGE, Int.reduceToNat, ↓reduceIte, List.reduceReplicate, Nat.reduceAdd, Nat.reduceSub, Nat.reduceMul, Nat.reduceLT, Nat.reduceLeDiff, Nat.reduceBEq, Nat.reduceEqDiff, e10, dn]
  refine CallOb.pureH (fun w' hp => hmu _ w' hp _ (pickS seats (KL ++ RL)) (row_hp (E := 3) List.mem_cons_self hp) hps5) ?_
  rintro r N5 (⟨h5, rfl⟩ | ⟨j5, l5, x5, h5, rfl, h6⟩)
  · rw [h5] at hTl
    have hlf := hno hTl
    have hkS' := hkS
    rw [if_neg (by rw [hTl]; exact Bool.false_ne_true)] at hkS'
    refine ⟨?_⟩
    simp (config := { maxSteps := 4000000 }) only [↓sx0, ↓sx1, ↓sx2, ↓sx3, ↓sx4, ↓sx5, ↓sx6, sx0, sx1, sx2, sx3, sx4, sx5, sx6, tf39, ev3_hold, sxo, sxc, sxp, sxq, sxr, sxs, sxl, sxm, Int.reduceBEq, Int.reduceBNe, Int.reduceLT, Int.reduceLE, Int.reduceEq, Int.reduceGT, Int.reduceGE, Int.reduceToNat, ↓reduceIte, List.reduceReplicate, Nat.reduceAdd, Nat.reduceSub, Nat.reduceMul, Nat.reduceLT, Nat.reduceLeDiff, Nat.reduceBEq, Nat.reduceEqDiff]
    exact ⟨(i + 1, ad4, c4), _, by simp only []; rw [hlf, hkS', hLl]; exact ⟨rfl, rfl⟩, (HImp.app _ _ _).trans (HImp.sub (.cons _ (.cons_cons _ (.cons _ (List.Sublist.refl _))))), ⟨by simp only []; omega, fun h => by simp only [] at h ⊢; rw [hlf, (hnil4 h).1, (hnil4 h).2]; rfl, by simp only []; rw [hlf, hLl]; exact hcap4, by simp only []; rw [hlf, hLl]⟩, by simp only []; omega⟩
  · rw [h5] at hTl
    have hlf := hyes hTl
    have hkS' := hkS
    have hTl' : T (KL ++ RL) = true := hTl
    rw [if_pos hTl'] at hkS'
    have e12 : (((KL ++ [(i : Int)]).length : Nat) : Int) = (KL.length : Int) + 1 := by rw [List.length_append, List.length_singleton]; omega
    refine ⟨?_⟩
    simp (config := { maxSteps := 4000000 }) only [↓sx0, ↓sx1, ↓sx2, ↓sx3, ↓sx4, ↓sx5, ↓sx6, sx0, sx1, sx2, sx3, sx4, sx5, sx6, tf39, ev3_hold, sxo, sxc, sxp, sxq, sxr, sxs, sxl, sxm, Int.reduceBEq, Int.reduceBNe, Int.reduceLT, Int.reduceLE, Int.reduceEq, Int.reduceGT, Int.reduceGE, Int.reduceToNat, ↓reduceIte, List.reduceReplicate, Nat.reduceAdd, Nat.reduceSub, Nat.reduceMul, Nat.reduceLT, Nat.reduceLeDiff, Nat.reduceBEq, Nat.reduceEqDiff, e9]
    exact ⟨(i + 1, some adl, cl2), _, by simp only []; rw [hlf, hkS', hm]; exact ⟨rfl, by rw [List.length_append, List.length_singleton]⟩, (HImp.app _ _ _).trans (HImp.sub (.cons _ (.cons _ (List.Sublist.refl _)))), ⟨by simp only []; omega, fun h => (by cases h), by simp only []; rw [hlf, hm]; exact hcap2, by simp only []; rw [hlf, hm]⟩, by simp only []; omega⟩

end Go.Proofs.Ytlbcgkoncnablaa
