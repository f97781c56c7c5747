/- Parts of a proof: the symbolic walk and what it shows of single functions. -/
import Derived.Test.YtcnlbnccbnapbaaDoorR1
set_option linter.all false
namespace Go.Proofs.YtcnlbnccbnapbaaDoor
open Go.RowKit Go.SX
set_option maxRecDepth 10000
set_option maxHeartbeats 0
set_option linter.unusedSimpArgs false
set_option linter.unusedVariables false
def seatAt (cs : List Cls) (i : Int) : Int := match cs[i.toNat]? with | some b => b.seats | none => 0
def seatsL (cs : List Cls) (x : List Int) : Int := sumB (seatAt cs) x
theorem seatAt_bound {cs : List Cls} (hg : ∀ b ∈ cs, clsB b = true) (i : Int) : 0 ≤ seatAt cs i ∧ seatAt cs i ≤ (40 : Nat) := by
  unfold seatAt
  cases h : cs[i.toNat]? with
  | none => simp
  | some b =>
    have := (clsB_iff b).1 (hg b (List.mem_of_getElem? h))
    simp only []
    omega
theorem seats_fn (w : World) (v u : Value) (cs : List Cls) (x : List Int) (hs : Sl w v 7 (cat clc cs)) (hx : Sl w u 1 (ints x)) (hg : ∀ b ∈ cs, clsB b = true) (hin : ∀ i ∈ x, 0 ≤ i ∧ i < cs.length) (hxl : x.length ≤ 1000) (hcl : cs.length ≤ 1000) :
    SX.Fn Tryd.prog 69 [v, u] w (fun _ => False) fun r N => r = I (seatsL cs x) := by
  obtain ⟨a, n, c, rfl⟩ := hs.shape
  have hn := hs.le clc_len (by omega)
  subst hn
  obtain ⟨a2, n2, c2, rfl⟩ := hx.shape
  have hn := hx.le i1_len (by omega)
  subst hn
  have hr := hs.rd0
  have hr2 := hx.rd0
  have b1 := fun i => sumB_bound (seatAt cs) 40 (x.take i) fun y _ => seatAt_bound hg y
  have b3 : ∀ i, (x.take i).length * 40 ≤ 40000 := fun i => by
    rw [List.length_take]
    have : min i x.length ≤ 1000 := by omega
    omega
  obtain ⟨A, hA⟩ : ∃ A : Nat → Int, ∀ i, sumB (seatAt cs) (x.take i) = A i := ⟨_, fun _ => rfl⟩
  have hAs : ∀ i y, x[i]? = some y → A (i + 1) = A i + seatAt cs y := fun i y h => by rw [← hA, ← hA, sumB_take _ h]
  have hA0 : A 0 = 0 := by rw [← hA]; rfl
  have hAl : A x.length = seatsL cs x := by rw [← hA, List.take_length]; rfl
  simp only [hA] at b1
  rw [← hAl]
  refine walk [] [] (det0_ok _ _) Tryd.func69 rfl Tryd.ntmps69 res69 (by kernel_rfl) no_facts ?_
  simp (config := { maxSteps := 4000000 }) only [↓sx0, ↓sx1, ↓sx2, ↓sx3, ↓sx4, ↓sx5, ↓sx6, sx0, sx1, sx2, sx3, sx4, sx5, sx6, tf69, ev3_hold, sxo, sxc, sxp, sxq, sxr, sxs, sxl, sxm, Int.reduceBEq, Int.reduceBNe, Int.reduceLT, Int.reduceLE, Int.reduceEq, Int.reduceGT, Int.reduceGE, Int.reduceToNat, ↓reduceIte, List.reduceReplicate, Nat.reduceAdd, Nat.reduceSub, Nat.reduceMul, Nat.reduceLT, Nat.reduceLeDiff, Nat.reduceBEq, Nat.reduceEqDiff]
  refine loop_constH [] (HImp.refl _ _) [(4, 4), (6, 6), (9, 20)] (fun i : Nat => [(4, I (A i)), (9, I i)]) (fun i H1 => i ≤ x.length ∧ H1 = []) (fun i => x.length - i) 0 ?_ ⟨Nat.zero_le _, rfl⟩ ?_
  · rw [hA0]
    simp (config := { maxSteps := 4000000 }) only [↓sx0, ↓sx1, ↓sx2, ↓sx3, ↓sx4, ↓sx5, ↓sx6, sx0, sx1, sx2, sx3, sx4, sx5, sx6, tf69, ev3_hold, sxo, sxc, sxp, sxq, sxr, sxs, sxl, sxm, Int.reduceBEq, Int.reduceBNe, Int.reduceLT, Int.reduceLE, Int.reduceEq, Int.reduceGT, Int.reduceGE, Int.reduceToNat, ↓reduceIte, List.reduceReplicate, Nat.reduceAdd, Nat.reduceSub, Nat.reduceMul, Nat.reduceLT, Nat.reduceLeDiff, Nat.reduceBEq, Nat.reduceEqDiff]
    try simp
  rintro i H1 g1 ⟨hi, rfl⟩
  by_cases hin2 : i = x.length
  · have e7 : ((i : Int) < (x.length : Int)) = False := eq_false (by omega)
    subst hin2
    refine ⟨?_⟩
    simp (config := { maxSteps := 4000000 }) only [↓sx0, ↓sx1, ↓sx2, ↓sx3, ↓sx4, ↓sx5, ↓sx6, sx0, sx1, sx2, sx3, sx4, sx5, sx6, tf69, ev3_hold, sxo, sxc, sxp, sxq, sxr, sxs, sxl, sxm, Int.reduceBEq, Int.reduceBNe, Int.reduceLT, Int.reduceLE, Int.reduceEq, Int.reduceGT, Int.reduceGE, Int.reduceToNat, ↓reduceIte, List.reduceReplicate, Nat.reduceAdd, Nat.reduceSub, Nat.reduceMul, Nat.reduceLT, Nat.reduceLeDiff, Nat.reduceBEq, Nat.reduceEqDiff, e7]
  have e7 : ((i : Int) < (x.length : Int)) = True := eq_true (by omega)
  have e2 : wr (i + 1) = ((i + 1 : Nat) : Int) := (wrap_id (by omega)).trans (by omega)
  have hil : i < x.length := by omega
  have hu := List.getElem?_eq_getElem hil
  obtain ⟨y, hy⟩ : ∃ y, x[i] = y := ⟨_, rfl⟩
  rw [hy] at hu
  obtain ⟨k, rfl⟩ : ∃ k : Nat, y = k := ⟨y.toNat, by have := hin y (by rw [← hy]; exact List.getElem_mem hil); omega⟩
  have hk : k < cs.length := by have := hin k (by rw [← hy]; exact List.getElem_mem hil); omega
  have hub := List.getElem?_eq_getElem hk
  obtain ⟨b, hb⟩ : ∃ b, cs[k] = b := ⟨_, rfl⟩
  rw [hb] at hub
  have hsa : seatAt cs k = b.seats := by unfold seatAt; rw [Int.toNat_natCast, hub]
  have c1 := hAs i k hu
  rw [hsa] at c1
  have d0 := seatAt_bound hg k
  rw [hsa] at d0
  have d1 := b1 i
  have d3 := b3 i
  have w3 : wr (A i + b.seats) = A (i + 1) := by rw [c1]; exact wrap_id (by omega)
  refine ⟨?_⟩
  simp (config := { maxSteps := 4000000 }) only [↓sx0, ↓sx1, ↓sx2, ↓sx3, ↓sx4, ↓sx5, ↓sx6, sx0, sx1, sx2, sx3, sx4, sx5, sx6, tf69, ev3_hold, sxo, sxc, sxp, sxq, sxr, sxs, sxl, sxm, Int.reduceBEq, Int.reduceBNe, Int.reduceLT, Int.reduceLE, Int.reduceEq, Int.reduceGT, Int.reduceGE, Int.reduceToNat, ↓reduceIte, List.reduceReplicate, Nat.reduceAdd, Nat.reduceSub, Nat.reduceMul, Nat.reduceLT, Nat.reduceLeDiff, Nat.reduceBEq, Nat.reduceEqDiff, e7]
  refine amid (at_1 (hr2 _) i1_len hu rfl fun ad => ?_)
  simp (config := { maxSteps := 4000000 }) only [↓sx0, ↓sx1, ↓sx2, ↓sx3, ↓sx4, ↓sx5, ↓sx6, sx0, sx1, sx2, sx3, sx4, sx5, sx6, tf69, ev3_hold, sxo, sxc, sxp, sxq, sxr, sxs, sxl, sxm, Int.reduceBEq, Int.reduceBNe, Int.reduceLT, Int.reduceLE, Int.reduceEq, Int.reduceGT, Int.reduceGE, Int.reduceToNat, ↓reduceIte, List.reduceReplicate, Nat.reduceAdd, Nat.reduceSub, Nat.reduceMul, Nat.reduceLT, Nat.reduceLeDiff, Nat.reduceBEq, Nat.reduceEqDiff]
  refine at_f (hr _) clc_len hub (o := 5) (x := I b.seats) rfl fun ad2 => ?_
  simp (config := { maxSteps := 4000000 }) only [↓sx0, ↓sx1, ↓sx2, ↓sx3, ↓sx4, ↓sx5, ↓sx6, sx0, sx1, sx2, sx3, sx4, sx5, sx6, tf69, ev3_hold, sxo, sxc, sxp, sxq, sxr, sxs, sxl, sxm, Int.reduceBEq, Int.reduceBNe, Int.reduceLT, Int.reduceLE, Int.reduceEq, Int.reduceGT, Int.reduceGE, Int.reduceToNat, ↓reduceIte, List.reduceReplicate, Nat.reduceAdd, Nat.reduceSub, Nat.reduceMul, Nat.reduceLT, Nat.reduceLeDiff, Nat.reduceBEq, Nat.reduceEqDiff, w3, e2]
  exact ⟨i + 1, _, ⟨rfl, rfl⟩, HImp.nil _ _, ⟨by omega, rfl⟩, by omega⟩
def boardE (cs : List Cls) (people : Int) : Int := if cs.length > 10 then 2 else if cs.any badC then 50 else if people < 0 then 1 else 0
def GotR (v : Value) (x : List Int) (N : List HO) : Prop := ∃ a c, v = .slice a x.length c ∧ (a = none → x = []) ∧ HO.ro (.row (.slice a x.length c) 3 1 (ints x)) ∈ N
theorem GotR.rdv {v : Value} {x : List Int} {N H : List HO} {w0 : Base} (h : GotR v x N) (hm : ∀ h ∈ N, h ∈ H) : Rdv w0 H v 1 (ints x) := by
  obtain ⟨a, c, rfl, h1, h2⟩ := h
  exact ro_rdv (hm _ h2) ⟨_, _, _, rfl, by rw [cat_len i1_len], fun h => by rw [h1 h]; rfl⟩
theorem GotR.hp {v : Value} {x : List Int} {N H : List HO} {w0 : Base} {w : World} (h : GotR v x N) (hm : ∀ h ∈ N, h ∈ H) (hp : Hp w0 H w) : Sl w v 1 (ints x) := by
  obtain ⟨a, c, rfl, h1, h2⟩ := h
  exact ro_hp (hm _ h2) hp
def FstP (P : List Int → Bool) (n : Nat) (q : Value) (N : List HO) : Prop := (fstL P n = none ∧ q = .tuple #[.slice none 0 0, I 3]) ∨ ∃ x v, fstL P n = some x ∧ q = .tuple #[v, I 0] ∧ GotR v x N
def BoardP (cs : List Cls) (people : Int) (q : Value) (N : List HO) : Prop := (boardE cs people ≠ 0 ∧ q = .tuple #[.slice none 0 0, I (boardE cs people)]) ∨ (boardE cs people = 0 ∧ FstP (fun x => decide (seatsL cs x ≥ people)) cs.length q N)
theorem find_step {P : List Int → Bool} {l : List (List Int)} {k : Nat} {x : List Int} (hx : l[k]? = some x) (h : ∀ q y, q < k → l[q]? = some y → P y = false) (hp : P x = true) : l.find? P = some x := by
  obtain ⟨hk, rfl⟩ := List.getElem?_eq_some_iff.1 hx
  refine List.find?_eq_some_iff_getElem.2 ⟨hp, k, hk, rfl, fun j hj => ?_⟩
  rw [h j _ hj (List.getElem?_eq_getElem (by omega))]
  rfl
theorem find_no {P : List Int → Bool} {l : List (List Int)} (h : ∀ q y, q < l.length → l[q]? = some y → P y = false) : l.find? P = none := by
  refine List.find?_eq_none.2 fun y hy => ?_
  obtain ⟨q, hq, rfl⟩ := List.getElem_of_mem hy
  rw [h q _ hq (List.getElem?_eq_getElem hq)]
  simp
def pl34_12 : Plan := (ones [1] (.ld 0 (.ld 3 (ones [2, 4] .fin))))
def pl34 : List (Nat × Plan) := [(12, pl34_12)]
theorem pl34_lk : (lkO 12 pl34 = some pl34_12) ∧ (lkO 11 pl34 = none) ∧ (lkO 13 pl34 = none) := ⟨rfl, rfl, rfl⟩
theorem board_fn (w : World) (v : Value) (cs : List Cls) (people : Int) (hs : Sl w v 7 (cat clc cs)) (hcl : cs.length ≤ 1000) :
    SX.Fn Tryd.prog 34 [v, I people] w (fun _ => False) (BoardP cs people) := by
  obtain ⟨a, n, c, rfl⟩ := hs.shape
  have hn := hs.le clc_len (by omega)
  subst hn
  have dn : ∀ (g : Nat) (xs : List Value), det0 g xs = none := fun _ _ => rfl
  unfold BoardP
  obtain ⟨E, hE⟩ : ∃ E, boardE cs people = E := ⟨_, rfl⟩
  rw [hE]
  unfold boardE at hE
  by_cases h1 : cs.length > 10
  · have e1 : ((cs.length : Int) > 10) = True := eq_true (by omega)
    rw [if_pos h1] at hE
    subst hE
    refine walk [] pl34 (det0_ok _ _) Tryd.func34 rfl Tryd.ntmps34 res34 (by kernel_rfl) no_facts ?_
    simp (config := { maxSteps := 4000000 }) only [↓sx0, ↓sx1, ↓sx2, ↓sx3, ↓sx4, ↓sx5, ↓sx6, sx0, sx1, sx2, sx3, sx4, sx5, sx6, tf34, ev3_hold, sxo, sxc, sxp, sxq, sxr, sxs, sxl, sxm, Int.reduceBEq, Int.reduceBNe, Int.reduceLT, Int.reduceLE, Int.reduceEq, Int.reduceGT, Int.reduceGE, Int.reduceToNat, ↓reduceIte, List.reduceReplicate, Nat.reduceAdd, Nat.reduceSub, Nat.reduceMul, Nat.reduceLT, Nat.reduceLeDiff, Nat.reduceBEq, Nat.reduceEqDiff, e1]
    exact .inl trivial
  have e1 : ((cs.length : Int) > 10) = False := eq_false (by omega)
  rw [if_neg h1] at hE
  cases h2 : cs.any badC with
  | true =>
    rw [h2, if_pos rfl] at hE
    subst hE
    refine walk [] pl34 (det0_ok _ _) Tryd.func34 rfl Tryd.ntmps34 res34 (by kernel_rfl) no_facts ?_
    simp (config := { maxSteps := 4000000 }) only [↓sx0, ↓sx1, ↓sx2, ↓sx3, ↓sx4, ↓sx5, ↓sx6, sx0, sx1, sx2, sx3, sx4, sx5, sx6, tf34, ev3_hold, sxo, sxc, sxp, sxq, sxr, sxs, sxl, sxm, Int.reduceBEq, Int.reduceBNe, Int.reduceLT, Int.reduceLE, Int.reduceEq, Int.reduceGT, Int.reduceGE, Int.reduceToNat, ↓reduceIte, List.reduceReplicate, Nat.reduceAdd, Nat.reduceSub, Nat.reduceMul, Nat.reduceLT, Nat.reduceLeDiff, Nat.reduceBEq, Nat.reduceEqDiff, e1, dn]
    refine CallOb.pureH (fun w' hp => containsC_fn w' _ cs _ [] badC (hs.hp (fun _ _ => id) hp) hcl (tells_badC w')) ?_
    rintro r N rfl
    refine ⟨?_⟩
    simp (config := { maxSteps := 4000000 }) only [↓sx0, ↓sx1, ↓sx2, ↓sx3, ↓sx4, ↓sx5, ↓sx6, sx0, sx1, sx2, sx3, sx4, sx5, sx6, tf34, ev3_hold, sxo, sxc, sxp, sxq, sxr, sxs, sxl, sxm, Int.reduceBEq, Int.reduceBNe, Int.reduceLT, Int.reduceLE, Int.reduceEq, Int.reduceGT, Int.reduceGE, Int.reduceToNat, ↓reduceIte, List.reduceReplicate, Nat.reduceAdd, Nat.reduceSub, Nat.reduceMul, Nat.reduceLT, Nat.reduceLeDiff, Nat.reduceBEq, Nat.reduceEqDiff, h2]
    exact .inl trivial
  | false =>
  rw [h2, if_neg (by simp)] at hE
  by_cases h3 : people < 0
  · have e3 : (people < 0) = True := eq_true h3
    rw [if_pos h3] at hE
    subst hE
    refine walk [] pl34 (det0_ok _ _) Tryd.func34 rfl Tryd.ntmps34 res34 (by kernel_rfl) no_facts ?_
    simp (config := { maxSteps := 4000000 }) only [↓sx0, ↓sx1, ↓sx2, ↓sx3, ↓sx4, ↓sx5, ↓sx6, sx0, sx1, sx2, sx3, sx4, sx5, sx6, tf34, ev3_hold, sxo, sxc, sxp, sxq, sxr, sxs, sxl, sxm, Int.reduceBEq, Int.reduceBNe, Int.reduceLT, Int.reduceLE, Int.reduceEq, Int.reduceGT, Int.reduceGE, Int.reduceToNat, ↓reduceIte, List.reduceReplicate, Nat.reduceAdd, Nat.reduceSub, Nat.reduceMul, Nat.reduceLT, Nat.reduceLeDiff, Nat.reduceBEq, Nat.reduceEqDiff, e1, dn]
    refine CallOb.pureH (fun w' hp => containsC_fn w' _ cs _ [] badC (hs.hp (fun _ _ => id) hp) hcl (tells_badC w')) ?_
    rintro r N rfl
    refine ⟨?_⟩
    simp (config := { maxSteps := 4000000 }) only [↓sx0, ↓sx1, ↓sx2, ↓sx3, ↓sx4, ↓sx5, ↓sx6, sx0, sx1, sx2, sx3, sx4, sx5, sx6, tf34, ev3_hold, sxo, sxc, sxp, sxq, sxr, sxs, sxl, sxm, Int.reduceBEq, Int.reduceBNe, Int.reduceLT, Int.reduceLE, Int.reduceEq, Int.reduceGT, Int.reduceGE, Int.reduceToNat, ↓reduceIte, List.reduceReplicate, Nat.reduceAdd, Nat.reduceSub, Nat.reduceMul, Nat.reduceLT, Nat.reduceLeDiff, Nat.reduceBEq, Nat.reduceEqDiff, h2, e3]
    exact .inl trivial
  have e3 : (people < 0) = False := eq_false h3
  rw [if_neg h3] at hE
  subst hE
  have hg : ∀ b ∈ cs, clsB b = true := fun b hb => by
    rw [List.any_eq_false] at h2
    simpa [badC] using h2 b hb
  have hlen : wr ((cs.length : Int) + 1) = ((cs.length + 1 : Nat) : Int) := (wrap_id (by omega)).trans (by omega)
  obtain ⟨P, hP⟩ : ∃ P : List Int → Bool, (fun x => decide (seatsL cs x ≥ people)) = P := ⟨_, rfl⟩
  have hP1 : ∀ x, P x = decide (seatsL cs x ≥ people) := fun x => by rw [← hP]
  rw [hP]
  have hfin : (∀ m, m < cs.length + 1 → (cmb m (idx cs.length)).find? P = none) → fstL P cs.length = none := fun h => fs_none _ _ h
  have hfou : ∀ m x, m < cs.length + 1 → (∀ m', m' < m → (cmb m' (idx cs.length)).find? P = none) → (cmb m (idx cs.length)).find? P = some x → fstL P cs.length = some x := fun m x hm h0 h1 => fs_some _ h0 h1 _ hm
  refine walk [] pl34 (det0_ok _ _) Tryd.func34 rfl Tryd.ntmps34 res34 (by kernel_rfl) no_facts ?_
  simp (config := { maxSteps := 4000000 }) only [↓sx0, ↓sx1, ↓sx2, ↓sx3, ↓sx4, ↓sx5, ↓sx6, sx0, sx1, sx2, sx3, sx4, sx5, sx6, tf34, ev3_hold, sxo, sxc, sxp, sxq, sxr, sxs, sxl, sxm, Int.reduceBEq, Int.reduceBNe, Int.reduceLT, Int.reduceLE, Int.reduceEq, Int.reduceGT, Int.reduceGE, Int.reduceToNat, ↓reduceIte, List.reduceReplicate, Nat.reduceAdd, Nat.reduceSub, Nat.reduceMul, Nat.reduceLT, Nat.reduceLeDiff, Nat.reduceBEq, Nat.reduceEqDiff, e1, dn]
  refine CallOb.pureH (fun w' hp => containsC_fn w' _ cs _ [] badC (hs.hp (fun _ _ => id) hp) hcl (tells_badC w')) ?_
  rintro r N rfl
  refine ⟨?_⟩
  simp (config := { maxSteps := 4000000 }) only [↓sx0, ↓sx1, ↓sx2, ↓sx3, ↓sx4, ↓sx5, ↓sx6, sx0, sx1, sx2, sx3, sx4, sx5, sx6, tf34, ev3_hold, sxo, sxc, sxp, sxq, sxr, sxs, sxl, sxm, Int.reduceBEq, Int.reduceBNe, Int.reduceLT, Int.reduceLE, Int.reduceEq, Int.reduceGT, Int.reduceGE, Int.reduceToNat, ↓reduceIte, List.reduceReplicate, Nat.reduceAdd, Nat.reduceSub, Nat.reduceMul, Nat.reduceLT, Nat.reduceLeDiff, Nat.reduceBEq, Nat.reduceEqDiff, h2, e3, hlen]
  refine loop_constH [] (HImp.nil _ _) [(6, 7), (18, 32)] (fun i : Nat => [(18, I i)]) (fun i H1 => i ≤ cs.length + 1 ∧ (∀ m, m < i → (cmb m (idx cs.length)).find? P = none) ∧ H1 = []) (fun i => cs.length + 1 - i) 0 ?_ ⟨Nat.zero_le _, fun m hm => by omega, rfl⟩ ?_
  · simp (config := { maxSteps := 4000000 }) only [↓sx0, ↓sx1, ↓sx2, ↓sx3, ↓sx4, ↓sx5, ↓sx6, sx0, sx1, sx2, sx3, sx4, sx5, sx6, tf34, ev3_hold, sxo, sxc, sxp, sxq, sxr, sxs, sxl, sxm, Int.reduceBEq, Int.reduceBNe, Int.reduceLT, Int.reduceLE, Int.reduceEq, Int.reduceGT, Int.reduceGE, Int.reduceToNat, ↓reduceIte, List.reduceReplicate, Nat.reduceAdd, Nat.reduceSub, Nat.reduceMul, Nat.reduceLT, Nat.reduceLeDiff, Nat.reduceBEq, Nat.reduceEqDiff]
    try simp
  rintro i H1 g1 ⟨hi, hno, rfl⟩
  by_cases hin : i = cs.length + 1
  · have e7 : ((i : Int) < ((cs.length + 1 : Nat) : Int)) = False := eq_false (by omega)
    have hz := hfin fun m hm => hno m (by omega)
    refine ⟨?_⟩
    simp (config := { maxSteps := 4000000 }) only [↓sx0, ↓sx1, ↓sx2, ↓sx3, ↓sx4, ↓sx5, ↓sx6, sx0, sx1, sx2, sx3, sx4, sx5, sx6, tf34, ev3_hold, sxo, sxc, sxp, sxq, sxr, sxs, sxl, sxm, Int.reduceBEq, Int.reduceBNe, Int.reduceLT, Int.reduceLE, Int.reduceEq, Int.reduceGT, Int.reduceGE, Int.reduceToNat, ↓reduceIte, List.reduceReplicate, Nat.reduceAdd, Nat.reduceSub, Nat.reduceMul, Nat.reduceLT, Nat.reduceLeDiff, Nat.reduceBEq, Nat.reduceEqDiff, e7]
    exact .inr (Or.inl ⟨hz, rfl⟩)
  have e7 : ((i : Int) < ((cs.length + 1 : Nat) : Int)) = True := eq_true (by omega)
  have e8 : wr (i + 1) = ((i + 1 : Nat) : Int) := (wrap_id (by omega)).trans (by omega)
  obtain ⟨all, hall⟩ : ∃ all, cmb i (idx cs.length) = all := ⟨_, rfl⟩
  have hmem : ∀ x ∈ all, x.Sublist (idx cs.length) := fun x hx => (cmb_mem.1 (by rw [hall]; exact hx)).1
  refine ⟨?_⟩
  simp (config := { maxSteps := 4000000 }) only [↓sx0, ↓sx1, ↓sx2, ↓sx3, ↓sx4, ↓sx5, ↓sx6, sx0, sx1, sx2, sx3, sx4, sx5, sx6, tf34, ev3_hold, sxo, sxc, sxp, sxq, sxr, sxs, sxl, sxm, Int.reduceBEq, Int.reduceBNe, Int.reduceLT, Int.reduceLE, Int.reduceEq, Int.reduceGT, Int.reduceGE, Int.reduceToNat, ↓reduceIte, List.reduceReplicate, Nat.reduceAdd, Nat.reduceSub, Nat.reduceMul, Nat.reduceLT, Nat.reduceLeDiff, Nat.reduceBEq, Nat.reduceEqDiff, e7, dn]
  refine CallOb.pureH (fun w' hp => choose_fn w' i cs.length) ?_
  rintro r N2 ⟨bf, bl, bm, rfl, rfl⟩
  refine ⟨?_⟩
  simp (config := { maxSteps := 4000000 }) only [↓sx0, ↓sx1, ↓sx2, ↓sx3, ↓sx4, ↓sx5, ↓sx6, sx0, sx1, sx2, sx3, sx4, sx5, sx6, tf34, ev3_hold, sxo, sxc, sxp, sxq, sxr, sxs, sxl, sxm, Int.reduceBEq, Int.reduceBNe, Int.reduceLT, Int.reduceLE, Int.reduceEq, Int.reduceGT, Int.reduceGE, Int.reduceToNat, ↓reduceIte, List.reduceReplicate, Nat.reduceAdd, Nat.reduceSub, Nat.reduceMul, Nat.reduceLT, Nat.reduceLeDiff, Nat.reduceBEq, Nat.reduceEqDiff]
  refine range_introH Tryd.call97 all.length (listArg all) [HO.cells bf 148 [fromC bm bl bf], HO.cells bl 3 [I cs.length], HO.cells bm 3 [I i]] [] (fun k L' H' => H' = [] ∧ L' = [(65, [.slice a cs.length c]), (3, [I people]), (22, [.slice none 0 0]), (38, [I 0])] ∧ ∀ q y, q < k → all[q]? = some y → P y = false) (fun _ => False) (fun x => x = bf ∨ x = bl ∨ x = bm) (HImp.refl _ _) (fun b h => h.elim) (fun b hb => .inr ?_) (fun w' hp => by rw [← hall]; exact choose2_it w' bf bl bm cs.length i (by omega) (by omega) (cells_hp List.mem_cons_self hp) (cells_hp (List.mem_cons_of_mem _ List.mem_cons_self) hp) (cells_hp (List.mem_cons_of_mem _ (List.mem_cons_of_mem _ List.mem_cons_self)) hp)) ⟨rfl, rfl, fun q y hq => by omega⟩ ?_ ?_ ?_
  · rcases hb with rfl | rfl | rfl
    · exact ⟨_, List.mem_cons_self, rfl⟩
    · exact ⟨_, List.mem_cons_of_mem _ List.mem_cons_self, rfl⟩
    · exact ⟨_, List.mem_cons_of_mem _ (List.mem_cons_of_mem _ List.mem_cons_self), rfl⟩
  · rintro k vs F ⟨x, a1, c1, h1, rfl, h2, rfl⟩
    rfl
  · rintro k vs F L' H' hk ⟨x, a1, c1, hx, rfl, hx0, rfl⟩ hL ⟨rfl, rfl, hq⟩
    have hsub := hmem x (List.mem_of_getElem? hx)
    have hxl := sub_len hsub
    have hxin : ∀ j ∈ x, 0 ≤ j ∧ j < cs.length := fun j hj => idx_mem.1 (hsub.subset hj)
    have hst := fun (w' : World) (hp : Hp ⟨w, fun _ => False⟩ [HO.ro (.row (.slice a1 x.length c1) 3 1 (ints x))] w') => seats_fn w' _ _ cs x (hs.hp (fun _ _ => id) hp) (ro_hp List.mem_cons_self hp) hg hxin (by omega) hcl
    obtain ⟨S, hS⟩ : ∃ S, seatsL cs x = S := ⟨_, rfl⟩
    rw [hS] at hst
    have hPx := hP1 x
    rw [hS] at hPx
    by_cases hge : S ≥ people
    · have e9 : (S ≥ people) = True := eq_true hge
      rw [decide_eq_true hge] at hPx
      have hz := hfou i x (by omega) hno (by rw [hall]; exact find_step hx hq hPx)
      refine ⟨?_⟩
      simp (config := { maxSteps := 4000000 }) only [↓sx0, ↓sx1, ↓sx2, ↓sx3, ↓sx4, ↓sx5, ↓sx6, sx0, sx1, sx2, sx3, sx4, sx5, sx6, tf34, ev3_hold, sxo, sxc, sxp, sxq, sxr, sxs, sxl, sxm, Int.reduceBEq, Int.reduceBNe, Int.reduceLT, Int.reduceLE, Int.reduceEq, Int.reduceGT, Int.reduceGE, Int.reduceToNat, ↓reduceIte, List.reduceReplicate, Nat.reduceAdd, Nat.reduceSub, Nat.reduceMul, Nat.reduceLT, Nat.reduceLeDiff, Nat.reduceBEq, Nat.reduceEqDiff, dn, pl34_lk, pl34_12]
      refine CallOb.pureH (fun w' hp => hst w' hp) ?_
      rintro r N3 rfl
      refine ⟨?_⟩
      simp (config := { maxSteps := 4000000 }) only [↓sx0, ↓sx1, ↓sx2, ↓sx3, ↓sx4, ↓sx5, ↓sx6, sx0, sx1, sx2, sx3, sx4, sx5, sx6, tf34, ev3_hold, sxo, sxc, sxp, sxq, sxr, sxs, sxl, sxm, Int.reduceBEq, Int.reduceBNe, Int.reduceLT, Int.reduceLE, Int.reduceEq, Int.reduceGT, Int.reduceGE, Int.reduceToNat, ↓reduceIte, List.reduceReplicate, Nat.reduceAdd, Nat.reduceSub, Nat.reduceMul, Nat.reduceLT, Nat.reduceLeDiff, Nat.reduceBEq, Nat.reduceEqDiff, e9, pl34_lk, pl34_12]
      exact ⟨_, HImp.app _ _ _, .inr (Or.inr ⟨x, _, hz, rfl, a1, c1, rfl, hx0, List.mem_cons_self⟩)⟩
    · have e9 : (S ≥ people) = False := eq_false hge
      rw [decide_eq_false hge] at hPx
      refine ⟨?_⟩
      simp (config := { maxSteps := 4000000 }) only [↓sx0, ↓sx1, ↓sx2, ↓sx3, ↓sx4, ↓sx5, ↓sx6, sx0, sx1, sx2, sx3, sx4, sx5, sx6, tf34, ev3_hold, sxo, sxc, sxp, sxq, sxr, sxs, sxl, sxm, Int.reduceBEq, Int.reduceBNe, Int.reduceLT, Int.reduceLE, Int.reduceEq, Int.reduceGT, Int.reduceGE, Int.reduceToNat, ↓reduceIte, List.reduceReplicate, Nat.reduceAdd, Nat.reduceSub, Nat.reduceMul, Nat.reduceLT, Nat.reduceLeDiff, Nat.reduceBEq, Nat.reduceEqDiff, dn, pl34_lk, pl34_12]
      refine CallOb.pureH (fun w' hp => hst w' hp) ?_
      rintro r N3 rfl
      refine ⟨?_⟩
      simp (config := { maxSteps := 4000000 }) only [↓sx0, ↓sx1, ↓sx2, ↓sx3, ↓sx4, ↓sx5, ↓sx6, sx0, sx1, sx2, sx3, sx4, sx5, sx6, tf34, ev3_hold, sxo, sxc, sxp, sxq, sxr, sxs, sxl, sxm, Int.reduceBEq, Int.reduceBNe, Int.reduceLT, Int.reduceLE, Int.reduceEq, Int.reduceGT, Int.reduceGE, Int.reduceToNat, ↓reduceIte, List.reduceReplicate, Nat.reduceAdd, Nat.reduceSub, Nat.reduceMul, Nat.reduceLT, Nat.reduceLeDiff, Nat.reduceBEq, Nat.reduceEqDiff, e9, pl34_lk, pl34_12]
      refine ⟨_, HImp.nil _ _, rfl, fun q y hqk hy => ?_⟩
      by_cases e : q = k
      · subst e
        rw [hx] at hy
        cases hy
        exact hPx
      · exact hq q y (by omega) hy
  · rintro L' H' hL ⟨rfl, rfl, hq⟩
    have hz := find_no hq
    rw [← hall] at hz
    refine ⟨?_⟩
    simp (config := { maxSteps := 4000000 }) only [↓sx0, ↓sx1, ↓sx2, ↓sx3, ↓sx4, ↓sx5, ↓sx6, sx0, sx1, sx2, sx3, sx4, sx5, sx6, tf34, ev3_hold, sxo, sxc, sxp, sxq, sxr, sxs, sxl, sxm, Int.reduceBEq, Int.reduceBNe, Int.reduceLT, Int.reduceLE, Int.reduceEq, Int.reduceGT, Int.reduceGE, Int.reduceToNat, ↓reduceIte, List.reduceReplicate, Nat.reduceAdd, Nat.reduceSub, Nat.reduceMul, Nat.reduceLT, Nat.reduceLeDiff, Nat.reduceBEq, Nat.reduceEqDiff, e8]
    refine ⟨i + 1, _, rfl, HImp.refl _ _, ⟨by omega, fun m hm => ?_, rfl⟩, by omega⟩
    by_cases e : m = i
    · subst e
      exact hz
    · exact hno m (by omega)
end Go.Proofs.YtcnlbnccbnapbaaDoor

namespace Go.Proofs.YtcnlbnccbnapbaaDoor
open Go.RowKit Go.SX
set_option maxRecDepth 10000
set_option maxHeartbeats 0
set_option linter.unusedSimpArgs false
set_option linter.unusedVariables false
def rightsV (b : Cls) (l : List (Int × Int × Int)) : Value := if loadE b l = 0 then .tuple #[.bool (decide (sumB highM l ≤ b.moment)), .bool (decide (sumB lowM l ≤ b.moment)), I 0] else .tuple #[.bool false, .bool false, I (loadE b l)]
theorem rights_fn (w : World) (v : Value) (b : Cls) (l : List (Int × Int × Int)) (hs : Sl w v 3 (cat ldc l)) (hl : l.length ≤ 1000) :
    SX.Fn Tryd.prog 36 [clv b, v] w (fun _ => False) fun r N => r = rightsV b l := by
  have dn : ∀ (g : Nat) (xs : List Value), det0 g xs = none := fun _ _ => rfl
  have hlo := fun (H : List HO) w' (hp : Hp ⟨w, fun _ => False⟩ H w') => loaded_fn w' v b l (hs.hp (fun _ _ => id) hp) hl
  unfold rightsV
  unfold clv
  unfold clv at hlo
  by_cases hE : loadE b l = 0
  · have hz := loadE_zero hE
    have hm := fun (H : List HO) w' (hp : Hp ⟨w, fun _ => False⟩ H w') => moments_fn w' v l (hs.hp (fun _ _ => id) hp) hl hz.2.2
    rw [if_pos hE]
    rw [hE] at hlo
    refine walk [] [] (det0_ok _ _) Tryd.func36 rfl Tryd.ntmps36 res36 (by kernel_rfl) no_facts ?_
    simp (config := { maxSteps := 4000000 }) only [↓sx0, ↓sx1, ↓sx2, ↓sx3, ↓sx4, ↓sx5, ↓sx6, sx0, sx1, sx2, sx3, sx4, sx5, sx6, tf36, ev3_hold, sxo, sxc, sxp, sxq, sxr, sxs, sxl, sxm, Int.reduceBEq, Int.reduceBNe, Int.reduceLT, Int.reduceLE, Int.reduceEq, Int.reduceGT, Int.reduceGE, Int.reduceToNat, ↓reduceIte, List.reduceReplicate, Nat.reduceAdd, Nat.reduceSub, Nat.reduceMul, Nat.reduceLT, Nat.reduceLeDiff, Nat.reduceBEq, Nat.reduceEqDiff, dn]
    refine CallOb.pureH (fun w' hp => hlo _ w' hp) ?_
    rintro r N rfl
    refine ⟨?_⟩
    simp (config := { maxSteps := 4000000 }) only [↓sx0, ↓sx1, ↓sx2, ↓sx3, ↓sx4, ↓sx5, ↓sx6, sx0, sx1, sx2, sx3, sx4, sx5, sx6, tf36, ev3_hold, sxo, sxc, sxp, sxq, sxr, sxs, sxl, sxm, Int.reduceBEq, Int.reduceBNe, Int.reduceLT, Int.reduceLE, Int.reduceEq, Int.reduceGT, Int.reduceGE, Int.reduceToNat, ↓reduceIte, List.reduceReplicate, Nat.reduceAdd, Nat.reduceSub, Nat.reduceMul, Nat.reduceLT, Nat.reduceLeDiff, Nat.reduceBEq, Nat.reduceEqDiff, dn]
    refine CallOb.pureH (fun w' hp => hm _ w' hp) ?_
    rintro r N2 rfl
    refine ⟨?_⟩
    simp (config := { maxSteps := 4000000 }) only [↓sx0, ↓sx1, ↓sx2, ↓sx3, ↓sx4, ↓sx5, ↓sx6, sx0, sx1, sx2, sx3, sx4, sx5, sx6, tf36, ev3_hold, sxo, sxc, sxp, sxq, sxr, sxs, sxl, sxm, Int.reduceBEq, Int.reduceBNe, Int.reduceLT, Int.reduceLE, Int.reduceEq, Int.reduceGT, Int.reduceGE, Int.reduceToNat, ↓reduceIte, List.reduceReplicate, Nat.reduceAdd, Nat.reduceSub, Nat.reduceMul, Nat.reduceLT, Nat.reduceLeDiff, Nat.reduceBEq, Nat.reduceEqDiff]
  · have e1 : (loadE b l = 0) = False := eq_false hE
    rw [if_neg hE]
    refine walk [] [] (det0_ok _ _) Tryd.func36 rfl Tryd.ntmps36 res36 (by kernel_rfl) no_facts ?_
    simp (config := { maxSteps := 4000000 }) only [↓sx0, ↓sx1, ↓sx2, ↓sx3, ↓sx4, ↓sx5, ↓sx6, sx0, sx1, sx2, sx3, sx4, sx5, sx6, tf36, ev3_hold, sxo, sxc, sxp, sxq, sxr, sxs, sxl, sxm, Int.reduceBEq, Int.reduceBNe, Int.reduceLT, Int.reduceLE, Int.reduceEq, Int.reduceGT, Int.reduceGE, Int.reduceToNat, ↓reduceIte, List.reduceReplicate, Nat.reduceAdd, Nat.reduceSub, Nat.reduceMul, Nat.reduceLT, Nat.reduceLeDiff, Nat.reduceBEq, Nat.reduceEqDiff, dn]
    refine CallOb.pureH (fun w' hp => hlo _ w' hp) ?_
    rintro r N rfl
    refine ⟨?_⟩
    simp (config := { maxSteps := 4000000 }) only [↓sx0, ↓sx1, ↓sx2, ↓sx3, ↓sx4, ↓sx5, ↓sx6, sx0, sx1, sx2, sx3, sx4, sx5, sx6, tf36, ev3_hold, sxo, sxc, sxp, sxq, sxr, sxs, sxl, sxm, Int.reduceBEq, Int.reduceBNe, Int.reduceLT, Int.reduceLE, Int.reduceEq, Int.reduceGT, Int.reduceGE, Int.reduceToNat, ↓reduceIte, List.reduceReplicate, Nat.reduceAdd, Nat.reduceSub, Nat.reduceMul, Nat.reduceLT, Nat.reduceLeDiff, Nat.reduceBEq, Nat.reduceEqDiff, e1]
def heelAt (l : List (Int × Int × Int)) (i : Int) : Int := match l[i.toNat]? with | some x => highM x | none => 0
def heelsL (l : List (Int × Int × Int)) (x : List Int) : Int := sumB (heelAt l) x
def shedB (b : Cls) (l : List (Int × Int × Int)) (x : List Int) : Bool := decide (sumB highM l - heelsL l x ≤ b.moment)
theorem heelAt_bound {l : List (Int × Int × Int)} (hg : ∀ x ∈ l, badL x = false) (i : Int) : 0 ≤ heelAt l i ∧ heelAt l i ≤ (50000 : Nat) := by
  unfold heelAt
  cases h : l[i.toNat]? with
  | none => simp
  | some x =>
    have := (goodM (hg x (List.mem_of_getElem? h))).2.1
    exact this
def ShedP (b : Cls) (l : List (Int × Int × Int)) (q : Value) (N : List HO) : Prop := (loadE b l ≠ 0 ∧ q = .tuple #[.slice none 0 0, I (loadE b l)]) ∨ (loadE b l = 0 ∧ FstP (shedB b l) l.length q N)
theorem shed_fn (w : World) (v : Value) (b : Cls) (l : List (Int × Int × Int)) (hs : Sl w v 3 (cat ldc l)) (hl : l.length ≤ 1000) :
    SX.Fn Tryd.prog 38 [clv b, v] w (fun _ => False) (ShedP b l) := by
  obtain ⟨a, n, c, rfl⟩ := hs.shape
  have hn := hs.le ldc_len (by omega)
  subst hn
  have hr := hs.rd0
  have dn : ∀ (g : Nat) (xs : List Value), det0 g xs = none := fun _ _ => rfl
  have hlo := fun (H : List HO) w' (hp : Hp ⟨w, fun _ => False⟩ H w') => loaded_fn w' _ b l (hs.hp (fun _ _ => id) hp) hl
  unfold ShedP
  unfold clv
  unfold clv at hlo
  by_cases hE : loadE b l = 0
  case neg =>
    have e1 : (loadE b l = 0) = False := eq_false hE
    refine walk [] [] (det0_ok _ _) Tryd.func38 rfl Tryd.ntmps38 res38 (by kernel_rfl) no_facts ?_
    simp (config := { maxSteps := 4000000 }) only [↓sx0, ↓sx1, ↓sx2, ↓sx3, ↓sx4, ↓sx5, ↓sx6, sx0, sx1, sx2, sx3, sx4, sx5, sx6, tf38, ev3_hold, sxo, sxc, sxp, sxq, sxr, sxs, sxl, sxm, Int.reduceBEq, Int.reduceBNe, Int.reduceLT, Int.reduceLE, Int.reduceEq, Int.reduceGT, Int.reduceGE, Int.reduceToNat, ↓reduceIte, List.reduceReplicate, Nat.reduceAdd, Nat.reduceSub, Nat.reduceMul, Nat.reduceLT, Nat.reduceLeDiff, Nat.reduceBEq, Nat.reduceEqDiff, dn]
    refine CallOb.pureH (fun w' hp => hlo _ w' hp) ?_
    rintro r N rfl
    refine ⟨?_⟩
    simp (config := { maxSteps := 4000000 }) only [↓sx0, ↓sx1, ↓sx2, ↓sx3, ↓sx4, ↓sx5, ↓sx6, sx0, sx1, sx2, sx3, sx4, sx5, sx6, tf38, ev3_hold, sxo, sxc, sxp, sxq, sxr, sxs, sxl, sxm, Int.reduceBEq, Int.reduceBNe, Int.reduceLT, Int.reduceLE, Int.reduceEq, Int.reduceGT, Int.reduceGE, Int.reduceToNat, ↓reduceIte, List.reduceReplicate, Nat.reduceAdd, Nat.reduceSub, Nat.reduceMul, Nat.reduceLT, Nat.reduceLeDiff, Nat.reduceBEq, Nat.reduceEqDiff, e1]
    exact .inl trivial
  have hz := loadE_zero hE
  have hg := hz.2.2
  have hm := fun (H : List HO) w' (hp : Hp ⟨w, fun _ => False⟩ H w') => moments_fn w' _ l (hs.hp (fun _ _ => id) hp) hl hg
  rw [hE] at hlo ⊢
  have hlen : wr ((l.length : Int) + 1) = ((l.length + 1 : Nat) : Int) := (wrap_id (by omega)).trans (by omega)
  obtain ⟨P, hP⟩ : ∃ P : List Int → Bool, shedB b l = P := ⟨_, rfl⟩
  have hP1 : ∀ x, P x = decide (sumB highM l - heelsL l x ≤ b.moment) := fun x => by rw [← hP]; rfl
  rw [hP]
  have hbl := sumB_bound highM 50000 l fun x hx => (goodM (hg x hx)).2.1
  obtain ⟨M, hM⟩ : ∃ M, sumB highM l = M := ⟨_, rfl⟩
  rw [hM] at hbl
  simp only [hM] at hP1 hm
  have hbl2 : l.length * 50000 ≤ 500000 := by have := hz.2.1; omega
  have hfin : (∀ m, m < l.length + 1 → (cmb m (idx l.length)).find? P = none) → fstL P l.length = none := fun h => fs_none _ _ h
  have hfou : ∀ m x, m < l.length + 1 → (∀ m', m' < m → (cmb m' (idx l.length)).find? P = none) → (cmb m (idx l.length)).find? P = some x → fstL P l.length = some x := fun m x hm h0 h1 => fs_some _ h0 h1 _ hm
  refine walk [] [] (det0_ok _ _) Tryd.func38 rfl Tryd.ntmps38 res38 (by kernel_rfl) no_facts ?_
  simp (config := { maxSteps := 4000000 }) only [↓sx0, ↓sx1, ↓sx2, ↓sx3, ↓sx4, ↓sx5, ↓sx6, sx0, sx1, sx2, sx3, sx4, sx5, sx6, tf38, ev3_hold, sxo, sxc, sxp, sxq, sxr, sxs, sxl, sxm, Int.reduceBEq, Int.reduceBNe, Int.reduceLT, Int.reduceLE, Int.reduceEq, Int.reduceGT, Int.reduceGE, Int.reduceToNat, ↓reduceIte, List.reduceReplicate, Nat.reduceAdd, Nat.reduceSub, Nat.reduceMul, Nat.reduceLT, Nat.reduceLeDiff, Nat.reduceBEq, Nat.reduceEqDiff, dn]
  refine CallOb.pureH (fun w' hp => hlo _ w' hp) ?_
  rintro r N rfl
  refine ⟨?_⟩
  simp (config := { maxSteps := 4000000 }) only [↓sx0, ↓sx1, ↓sx2, ↓sx3, ↓sx4, ↓sx5, ↓sx6, sx0, sx1, sx2, sx3, sx4, sx5, sx6, tf38, ev3_hold, sxo, sxc, sxp, sxq, sxr, sxs, sxl, sxm, Int.reduceBEq, Int.reduceBNe, Int.reduceLT, Int.reduceLE, Int.reduceEq, Int.reduceGT, Int.reduceGE, Int.reduceToNat, ↓reduceIte, List.reduceReplicate, Nat.reduceAdd, Nat.reduceSub, Nat.reduceMul, Nat.reduceLT, Nat.reduceLeDiff, Nat.reduceBEq, Nat.reduceEqDiff, dn]
  refine CallOb.pureH (fun w' hp => hm _ w' hp) ?_
  rintro r N2 rfl
  refine ⟨?_⟩
  simp (config := { maxSteps := 4000000 }) only [↓sx0, ↓sx1, ↓sx2, ↓sx3, ↓sx4, ↓sx5, ↓sx6, sx0, sx1, sx2, sx3, sx4, sx5, sx6, tf38, ev3_hold, sxo, sxc, sxp, sxq, sxr, sxs, sxl, sxm, Int.reduceBEq, Int.reduceBNe, Int.reduceLT, Int.reduceLE, Int.reduceEq, Int.reduceGT, Int.reduceGE, Int.reduceToNat, ↓reduceIte, List.reduceReplicate, Nat.reduceAdd, Nat.reduceSub, Nat.reduceMul, Nat.reduceLT, Nat.reduceLeDiff, Nat.reduceBEq, Nat.reduceEqDiff, hlen]
  refine loop_constH [] (HImp.nil _ _) [(9, 11), (13, 13), (28, 63)] (fun i : Nat => [(28, I i)]) (fun i H1 => i ≤ l.length + 1 ∧ (∀ m, m < i → (cmb m (idx l.length)).find? P = none) ∧ H1 = []) (fun i => l.length + 1 - i) 0 ?_ ⟨Nat.zero_le _, fun m hm => by omega, rfl⟩ ?_
  · simp (config := { maxSteps := 4000000 }) only [↓sx0, ↓sx1, ↓sx2, ↓sx3, ↓sx4, ↓sx5, ↓sx6, sx0, sx1, sx2, sx3, sx4, sx5, sx6, tf38, ev3_hold, sxo, sxc, sxp, sxq, sxr, sxs, sxl, sxm, Int.reduceBEq, Int.reduceBNe, Int.reduceLT, Int.reduceLE, Int.reduceEq, Int.reduceGT, Int.reduceGE, Int.reduceToNat, ↓reduceIte, List.reduceReplicate, Nat.reduceAdd, Nat.reduceSub, Nat.reduceMul, Nat.reduceLT, Nat.reduceLeDiff, Nat.reduceBEq, Nat.reduceEqDiff]
    try simp
  rintro i H1 g1 ⟨hi, hno, rfl⟩
  by_cases hin : i = l.length + 1
  · have e7 : ((i : Int) < ((l.length + 1 : Nat) : Int)) = False := eq_false (by omega)
    have hz := hfin fun m hm => hno m (by omega)
    refine ⟨?_⟩
    simp (config := { maxSteps := 4000000 }) only [↓sx0, ↓sx1, ↓sx2, ↓sx3, ↓sx4, ↓sx5, ↓sx6, sx0, sx1, sx2, sx3, sx4, sx5, sx6, tf38, ev3_hold, sxo, sxc, sxp, sxq, sxr, sxs, sxl, sxm, Int.reduceBEq, Int.reduceBNe, Int.reduceLT, Int.reduceLE, Int.reduceEq, Int.reduceGT, Int.reduceGE, Int.reduceToNat, ↓reduceIte, List.reduceReplicate, Nat.reduceAdd, Nat.reduceSub, Nat.reduceMul, Nat.reduceLT, Nat.reduceLeDiff, Nat.reduceBEq, Nat.reduceEqDiff, e7]
    exact .inr (Or.inl ⟨hz, rfl⟩)
  have e7 : ((i : Int) < ((l.length + 1 : Nat) : Int)) = True := eq_true (by omega)
  have e8 : wr (i + 1) = ((i + 1 : Nat) : Int) := (wrap_id (by omega)).trans (by omega)
  obtain ⟨all, hall⟩ : ∃ all, cmb i (idx l.length) = all := ⟨_, rfl⟩
  have hmem : ∀ x ∈ all, x.Sublist (idx l.length) := fun x hx => (cmb_mem.1 (by rw [hall]; exact hx)).1
  refine ⟨?_⟩
  simp (config := { maxSteps := 4000000 }) only [↓sx0, ↓sx1, ↓sx2, ↓sx3, ↓sx4, ↓sx5, ↓sx6, sx0, sx1, sx2, sx3, sx4, sx5, sx6, tf38, ev3_hold, sxo, sxc, sxp, sxq, sxr, sxs, sxl, sxm, Int.reduceBEq, Int.reduceBNe, Int.reduceLT, Int.reduceLE, Int.reduceEq, Int.reduceGT, Int.reduceGE, Int.reduceToNat, ↓reduceIte, List.reduceReplicate, Nat.reduceAdd, Nat.reduceSub, Nat.reduceMul, Nat.reduceLT, Nat.reduceLeDiff, Nat.reduceBEq, Nat.reduceEqDiff, e7, dn]
  refine CallOb.pureH (fun w' hp => choose_fn w' i l.length) ?_
  rintro r N2 ⟨bf, bl, bm, rfl, rfl⟩
  refine ⟨?_⟩
  simp (config := { maxSteps := 4000000 }) only [↓sx0, ↓sx1, ↓sx2, ↓sx3, ↓sx4, ↓sx5, ↓sx6, sx0, sx1, sx2, sx3, sx4, sx5, sx6, tf38, ev3_hold, sxo, sxc, sxp, sxq, sxr, sxs, sxl, sxm, Int.reduceBEq, Int.reduceBNe, Int.reduceLT, Int.reduceLE, Int.reduceEq, Int.reduceGT, Int.reduceGE, Int.reduceToNat, ↓reduceIte, List.reduceReplicate, Nat.reduceAdd, Nat.reduceSub, Nat.reduceMul, Nat.reduceLT, Nat.reduceLeDiff, Nat.reduceBEq, Nat.reduceEqDiff]
  refine range_introH Tryd.call97 all.length (listArg all) [HO.cells bf 148 [fromC bm bl bf], HO.cells bl 3 [I l.length], HO.cells bm 3 [I i]] [] (fun k L' H' => H' = [] ∧ L' = [(27, [I b.draught, I b.seas, I b.move, I b.idle, I b.reserve, I b.seats, I b.moment]), (70, [.slice a l.length c]), (22, [.slice none 0 0]), (38, [I 0]), (3, [I M])] ∧ ∀ q y, q < k → all[q]? = some y → P y = false) (fun _ => False) (fun x => x = bf ∨ x = bl ∨ x = bm) (HImp.refl _ _) (fun b h => h.elim) (fun b hb => .inr ?_) (fun w' hp => by rw [← hall]; exact choose2_it w' bf bl bm l.length i (by omega) (by omega) (cells_hp List.mem_cons_self hp) (cells_hp (List.mem_cons_of_mem _ List.mem_cons_self) hp) (cells_hp (List.mem_cons_of_mem _ (List.mem_cons_of_mem _ List.mem_cons_self)) hp)) ⟨rfl, rfl, fun q y hq => by omega⟩ ?_ ?_ ?_
  · rcases hb with rfl | rfl | rfl
    · exact ⟨_, List.mem_cons_self, rfl⟩
    · exact ⟨_, List.mem_cons_of_mem _ List.mem_cons_self, rfl⟩
    · exact ⟨_, List.mem_cons_of_mem _ (List.mem_cons_of_mem _ List.mem_cons_self), rfl⟩
  · rintro k vs F ⟨x, a1, c1, h1, rfl, h2, rfl⟩
    rfl
  · rintro k vs F L' H' hk ⟨x, a1, c1, hx, rfl, hx0, rfl⟩ hL ⟨rfl, rfl, hq⟩
    have hsub := hmem x (List.mem_of_getElem? hx)
    have hxl := sub_len hsub
    have hxin : ∀ j ∈ x, 0 ≤ j ∧ j < l.length := fun j hj => idx_mem.1 (hsub.subset hj)
    have bb := fun i => sumB_bound (heelAt l) 50000 (x.take i) fun y _ => heelAt_bound hg y
    have bc : ∀ i, (x.take i).length * 50000 ≤ 10 * 50000 := fun i => Nat.mul_le_mul_right 50000 (Nat.le_trans (by rw [List.length_take]; exact Nat.min_le_right _ _) (Nat.le_trans hxl hz.2.1))
    obtain ⟨A, hA⟩ : ∃ A : Nat → Int, ∀ i, M - sumB (heelAt l) (x.take i) = A i := ⟨_, fun _ => rfl⟩
    have hAs : ∀ i y, x[i]? = some y → A (i + 1) = A i - heelAt l y := fun i y h => by rw [← hA, ← hA, sumB_take _ h]; omega
    have hA0 : A 0 = M := by rw [← hA]; simp [sumB]
    have hAl : A x.length = M - heelsL l x := by rw [← hA, List.take_length]; rfl
    have hAb : ∀ i, -500000 ≤ A i ∧ A i ≤ 500000 := fun i => by
      have h1 := bb i
      have h2 := bc i
      rw [← hA]
      omega
    have hPx := hP1 x
    rw [← hAl] at hPx
    have hr2 := fun H (hm : HO.ro (.row (.slice a1 x.length c1) 3 1 (ints x)) ∈ H) => ro_rdv (w0 := ⟨w, fun _ => False⟩) (H := H) hm ⟨_, _, _, rfl, by rw [cat_len i1_len], fun h => by rw [hx0 h]; rfl⟩
    refine ⟨?_⟩
    simp (config := { maxSteps := 4000000 }) only [↓sx0, ↓sx1, ↓sx2, ↓sx3, ↓sx4, ↓sx5, ↓sx6, sx0, sx1, sx2, sx3, sx4, sx5, sx6, tf38, ev3_hold, sxo, sxc, sxp, sxq, sxr, sxs, sxl, sxm, Int.reduceBEq, Int.reduceBNe, Int.reduceLT, Int.reduceLE, Int.reduceEq, Int.reduceGT, Int.reduceGE, Int.reduceToNat, ↓reduceIte, List.reduceReplicate, Nat.reduceAdd, Nat.reduceSub, Nat.reduceMul, Nat.reduceLT, Nat.reduceLeDiff, Nat.reduceBEq, Nat.reduceEqDiff]
    refine loop_constH _ (HImp.refl _ _) [(11, 11), (13, 13), (39, 57)] (fun i : Nat => [(11, I (A i)), (39, I i)]) (fun i H1 => i ≤ x.length ∧ H1 = [HO.ro (.row (.slice a1 x.length c1) 3 1 (ints x))]) (fun i => x.length - i) 0 ?_ ⟨Nat.zero_le _, rfl⟩ ?_
    · have hA0' := hA0.symm
      subst hA0'
      simp (config := { maxSteps := 4000000 }) only [↓sx0, ↓sx1, ↓sx2, ↓sx3, ↓sx4, ↓sx5, ↓sx6, sx0, sx1, sx2, sx3, sx4, sx5, sx6, tf38, ev3_hold, sxo, sxc, sxp, sxq, sxr, sxs, sxl, sxm, Int.reduceBEq, Int.reduceBNe, Int.reduceLT, Int.reduceLE, Int.reduceEq, Int.reduceGT, Int.reduceGE, Int.reduceToNat, ↓reduceIte, List.reduceReplicate, Nat.reduceAdd, Nat.reduceSub, Nat.reduceMul, Nat.reduceLT, Nat.reduceLeDiff, Nat.reduceBEq, Nat.reduceEqDiff]
      try simp
    rintro j H1 g1 ⟨hj, rfl⟩
    by_cases hjn : j = x.length
    case neg =>
      have f7 : ((j : Int) < (x.length : Int)) = True := eq_true (by omega)
      have f2 : wr (j + 1) = ((j + 1 : Nat) : Int) := (wrap_id (by omega)).trans (by omega)
      have hjl : j < x.length := by omega
      have hu := List.getElem?_eq_getElem hjl
      obtain ⟨y, hy⟩ : ∃ y, x[j] = y := ⟨_, rfl⟩
      rw [hy] at hu
      obtain ⟨y, rfl⟩ : ∃ k : Nat, y = k := ⟨y.toNat, by have := hxin y (by rw [← hy]; exact List.getElem_mem hjl); omega⟩
      have hyl : y < l.length := by have := hxin y (by rw [← hy]; exact List.getElem_mem hjl); omega
      have hub := List.getElem?_eq_getElem hyl
      obtain ⟨z, hzz⟩ : ∃ z, l[y] = z := ⟨_, rfl⟩
      rw [hzz] at hub
      have hsa : heelAt l y = z.2.1 * z.2.2 := by unfold heelAt; rw [Int.toNat_natCast, hub]; rfl
      have c1 := hAs j y hu
      have d0 := heelAt_bound hg y
      rw [hsa] at c1 d0
      have d1 := hAb j
      have w1 : wr (z.2.1 * z.2.2) = z.2.1 * z.2.2 := wrap_id (by omega)
      have w3 : wr (A j - z.2.1 * z.2.2) = A (j + 1) := by rw [c1]; exact wrap_id (by omega)
      refine ⟨?_⟩
      simp (config := { maxSteps := 4000000 }) only [↓sx0, ↓sx1, ↓sx2, ↓sx3, ↓sx4, ↓sx5, ↓sx6, sx0, sx1, sx2, sx3, sx4, sx5, sx6, tf38, ev3_hold, sxo, sxc, sxp, sxq, sxr, sxs, sxl, sxm, Int.reduceBEq, Int.reduceBNe, Int.reduceLT, Int.reduceLE, Int.reduceEq, Int.reduceGT, Int.reduceGE, Int.reduceToNat, ↓reduceIte, List.reduceReplicate, Nat.reduceAdd, Nat.reduceSub, Nat.reduceMul, Nat.reduceLT, Nat.reduceLeDiff, Nat.reduceBEq, Nat.reduceEqDiff, f7]
      refine amid (at_1 (hr2 _ List.mem_cons_self) i1_len hu rfl fun ad => ?_)
      simp (config := { maxSteps := 4000000 }) only [↓sx0, ↓sx1, ↓sx2, ↓sx3, ↓sx4, ↓sx5, ↓sx6, sx0, sx1, sx2, sx3, sx4, sx5, sx6, tf38, ev3_hold, sxo, sxc, sxp, sxq, sxr, sxs, sxl, sxm, Int.reduceBEq, Int.reduceBNe, Int.reduceLT, Int.reduceLE, Int.reduceEq, Int.reduceGT, Int.reduceGE, Int.reduceToNat, ↓reduceIte, List.reduceReplicate, Nat.reduceAdd, Nat.reduceSub, Nat.reduceMul, Nat.reduceLT, Nat.reduceLeDiff, Nat.reduceBEq, Nat.reduceEqDiff]
      refine at_f2 (hr _) ldc_len hub (o1 := 0) (o2 := 1) (x := I z.2.1) rfl fun ad2 => ?_
      simp (config := { maxSteps := 4000000 }) only [↓sx0, ↓sx1, ↓sx2, ↓sx3, ↓sx4, ↓sx5, ↓sx6, sx0, sx1, sx2, sx3, sx4, sx5, sx6, tf38, ev3_hold, sxo, sxc, sxp, sxq, sxr, sxs, sxl, sxm, Int.reduceBEq, Int.reduceBNe, Int.reduceLT, Int.reduceLE, Int.reduceEq, Int.reduceGT, Int.reduceGE, Int.reduceToNat, ↓reduceIte, List.reduceReplicate, Nat.reduceAdd, Nat.reduceSub, Nat.reduceMul, Nat.reduceLT, Nat.reduceLeDiff, Nat.reduceBEq, Nat.reduceEqDiff]
      refine at_f (hr _) ldc_len hub (o := 2) (x := I z.2.2) rfl fun ad2 => ?_
      simp (config := { maxSteps := 4000000 }) only [↓sx0, ↓sx1, ↓sx2, ↓sx3, ↓sx4, ↓sx5, ↓sx6, sx0, sx1, sx2, sx3, sx4, sx5, sx6, tf38, ev3_hold, sxo, sxc, sxp, sxq, sxr, sxs, sxl, sxm, Int.reduceBEq, Int.reduceBNe, Int.reduceLT, Int.reduceLE, Int.reduceEq, Int.reduceGT, Int.reduceGE, Int.reduceToNat, ↓reduceIte, List.reduceReplicate, Nat.reduceAdd, Nat.reduceSub, Nat.reduceMul, Nat.reduceLT, Nat.reduceLeDiff, Nat.reduceBEq, Nat.reduceEqDiff, w1, w3, f2]
      exact ⟨j + 1, _, ⟨rfl, rfl⟩, HImp.refl _ _, ⟨by omega, rfl⟩, by omega⟩
    subst hjn
    have f7 : ((x.length : Int) < (x.length : Int)) = False := eq_false (by omega)
    by_cases hge : A x.length ≤ b.moment
    · have e9 : (A x.length ≤ b.moment) = True := eq_true hge
      rw [decide_eq_true hge] at hPx
      have hz := hfou i x (by omega) hno (by rw [hall]; exact find_step hx hq hPx)
      refine ⟨?_⟩
      simp (config := { maxSteps := 4000000 }) only [↓sx0, ↓sx1, ↓sx2, ↓sx3, ↓sx4, ↓sx5, ↓sx6, sx0, sx1, sx2, sx3, sx4, sx5, sx6, tf38, ev3_hold, sxo, sxc, sxp, sxq, sxr, sxs, sxl, sxm, Int.reduceBEq, Int.reduceBNe, Int.reduceLT, Int.reduceLE, Int.reduceEq, Int.reduceGT, Int.reduceGE, Int.reduceToNat, ↓reduceIte, List.reduceReplicate, Nat.reduceAdd, Nat.reduceSub, Nat.reduceMul, Nat.reduceLT, Nat.reduceLeDiff, Nat.reduceBEq, Nat.reduceEqDiff, f7, e9]
      exact ⟨_, HImp.refl _ _, .inr (Or.inr ⟨x, _, hz, rfl, a1, c1, rfl, hx0, List.mem_cons_self⟩)⟩
    · have e9 : (A x.length ≤ b.moment) = False := eq_false hge
      rw [decide_eq_false hge] at hPx
      refine ⟨?_⟩
      simp (config := { maxSteps := 4000000 }) only [↓sx0, ↓sx1, ↓sx2, ↓sx3, ↓sx4, ↓sx5, ↓sx6, sx0, sx1, sx2, sx3, sx4, sx5, sx6, tf38, ev3_hold, sxo, sxc, sxp, sxq, sxr, sxs, sxl, sxm, Int.reduceBEq, Int.reduceBNe, Int.reduceLT, Int.reduceLE, Int.reduceEq, Int.reduceGT, Int.reduceGE, Int.reduceToNat, ↓reduceIte, List.reduceReplicate, Nat.reduceAdd, Nat.reduceSub, Nat.reduceMul, Nat.reduceLT, Nat.reduceLeDiff, Nat.reduceBEq, Nat.reduceEqDiff, f7, e9]
      refine ⟨_, HImp.nil _ _, rfl, fun q y hqk hy => ?_⟩
      by_cases e : q = k
      · subst e
        rw [hx] at hy
        cases hy
        exact hPx
      · exact hq q y (by omega) hy
  · rintro L' H' hL ⟨rfl, rfl, hq⟩
    have hz := find_no hq
    rw [← hall] at hz
    refine ⟨?_⟩
    simp (config := { maxSteps := 4000000 }) only [↓sx0, ↓sx1, ↓sx2, ↓sx3, ↓sx4, ↓sx5, ↓sx6, sx0, sx1, sx2, sx3, sx4, sx5, sx6, tf38, ev3_hold, sxo, sxc, sxp, sxq, sxr, sxs, sxl, sxm, Int.reduceBEq, Int.reduceBNe, Int.reduceLT, Int.reduceLE, Int.reduceEq, Int.reduceGT, Int.reduceGE, Int.reduceToNat, ↓reduceIte, List.reduceReplicate, Nat.reduceAdd, Nat.reduceSub, Nat.reduceMul, Nat.reduceLT, Nat.reduceLeDiff, Nat.reduceBEq, Nat.reduceEqDiff, e8]
    refine ⟨i + 1, _, rfl, HImp.refl _ _, ⟨by omega, fun m hm => ?_, rfl⟩, by omega⟩
    by_cases e : m = i
    · subst e
      exact hz
    · exact hno m (by omega)
end Go.Proofs.YtcnlbnccbnapbaaDoor

