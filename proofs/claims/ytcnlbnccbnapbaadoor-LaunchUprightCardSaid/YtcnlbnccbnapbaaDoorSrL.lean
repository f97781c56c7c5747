/- A part of a proof: the symbolic walk and what it shows of single functions. -/
import Derived.Test.YtcnlbnccbnapbaaDoorR5
set_option linter.all false
namespace Go.Proofs.YtcnlbnccbnapbaaDoor
open Go.RowKit Go.SX
set_option maxRecDepth 10000
set_option maxHeartbeats 0
set_option linter.unusedSimpArgs false
set_option linter.unusedVariables false
def pickF (q : Nat → Bool) : Nat → Nat → List Int
  | _, 0 => []
  | i, k + 1 => if q i then (i : Int) :: pickF q (i + 1) k else pickF q (i + 1) k
theorem pickF_ge (q : Nat → Bool) : ∀ k i, ∀ y ∈ pickF q i k, (i : Int) ≤ y := by
  intro k
  induction k with
  | zero => intro i y h; simp [pickF] at h
  | succ k ih =>
    intro i y h
    unfold pickF at h
    split at h
    · rcases List.mem_cons.1 h with rfl | h
      · exact Int.le_refl _
      · have := ih _ _ h
        omega
    · have := ih _ _ h
      omega
theorem pick_split (q : Nat → Bool) (n : Nat) : ∀ k i, i + k = n → pick q n = pick q i ++ pickF q i k := by
  intro k
  induction k with
  | zero => intro i h; rw [pickF, List.append_nil, show i = n by omega]
  | succ k ih =>
    intro i h
    rw [ih (i + 1) (by omega), pick_succ, pickF]
    cases q i <;> simp
theorem pick_at {q : Nat → Bool} {n i : Nat} (h : i < n) : (q i = true → (pick q n)[(pick q i).length]? = some (i : Int)) ∧ (q i = false → ∀ y, (pick q n)[(pick q i).length]? = some y → (i : Int) < y) := by
  rw [pick_split q n (n - i) i (by omega), show n - i = (n - i - 1) + 1 by omega, pickF]
  refine ⟨fun hq => ?_, fun hq y hy => ?_⟩
  · rw [if_pos hq, List.getElem?_append_right (Nat.le_refl _), Nat.sub_self]
    rfl
  · rw [if_neg (by rw [hq]; simp), List.getElem?_append_right (Nat.le_refl _)] at hy
    have := pickF_ge q _ _ y (List.mem_of_getElem? hy)
    omega
theorem pick_lens (q : Nat → Bool) (n : Nat) : (pick q n).length + (pick (fun i => !q i) n).length = n := by
  induction n with
  | zero => rfl
  | succ n ih =>
    rw [pick_succ, pick_succ, List.length_append, List.length_append]
    cases q n <;> simp <;> omega
def selL (q : Nat → Bool) (l : List (Int × Int × Int)) (n : Nat) : List (Int × Int × Int) := ((List.range n).filter q).filterMap fun i => l[i]?
theorem selL_succ (q : Nat → Bool) {l : List (Int × Int × Int)} {n : Nat} {x : Int × Int × Int} (h : l[n]? = some x) : selL q l (n + 1) = selL q l n ++ (if q n then [x] else []) := by
  unfold selL
  rw [List.range_succ, List.filter_append, List.filterMap_append]
  cases hq : q n <;> simp [hq, h]
theorem selL_facts (q : Nat → Bool) (l : List (Int × Int × Int)) : ∀ n, n ≤ l.length → (selL q l n).length = (pick q n).length ∧ sumB highM (selL q l n) = heelsL l (pick q n) ∧ ∀ x ∈ selL q l n, x ∈ l := by
  intro n
  induction n with
  | zero => intro _; exact ⟨rfl, rfl, fun x h => by simp [selL] at h⟩
  | succ n ih =>
    intro h
    obtain ⟨h1, h2, h3⟩ := ih (by omega)
    have hu : l[n]? = some l[n] := List.getElem?_eq_getElem (by omega)
    have hh : heelAt l n = highM l[n] := by unfold heelAt; rw [Int.toNat_natCast, hu]
    unfold heelsL at h2 ⊢
    rw [selL_succ q hu, pick_succ, List.length_append, List.length_append, sumB_append, sumB_append, h1, h2]
    cases hq : q n
    · exact ⟨by simp, by simp [sumB], fun x hx => h3 x (by simpa using hx)⟩
    · refine ⟨by simp, by simp [sumB, hh], fun x hx => ?_⟩
      rcases List.mem_append.1 hx with hx | hx
      · exact h3 x hx
      · have : x = l[n] := by simpa using hx
        rw [this]
        exact List.getElem_mem _
theorem loadE_ok {b : Cls} {l : List (Int × Int × Int)} (h1 : clsB b = true) (h2 : l.length ≤ 10) (h3 : ∀ x ∈ l, badL x = false) : loadE b l = 0 := by
  unfold loadE
  rw [if_pos h1, if_neg (by omega), if_neg]
  rw [Bool.not_eq_true, List.any_eq_false]
  intro x hx
  rw [h3 x hx]
  simp
theorem low_le_high {l : List (Int × Int × Int)} (h : ∀ x ∈ l, badL x = false) : sumB lowM l ≤ sumB highM l := by
  induction l with
  | nil => exact Int.le_refl _
  | cons x l ih =>
    have h1 := (goodM (h x List.mem_cons_self)).2.2
    have h2 := ih fun y hy => h y (List.mem_cons_of_mem _ hy)
    simp only [sumB]
    omega
theorem upright_plain {b : Cls} {l : List (Int × Int × Int)} (hE : loadE b l = 0) (set : Int) : ∃ q : Nat → Bool, (shedA b l) = (pick q l.length, 0) ∧
    (sumB highM l ≤ b.moment → sumB lowM l ≤ b.moment ∧ (pick q l.length).length = 0) ∧ (¬ sumB highM l ≤ b.moment → (pick q l.length).length ≠ 0) ∧
    loadE b (selL (fun i => !q i) l l.length) = 0 ∧ loadE b (selL (bitP set) l l.length) = 0 ∧ sumB highM (selL (fun i => !q i) l l.length) ≤ b.moment ∧
    (sumB highM (selL (bitP set) l l.length) ≤ b.moment → ¬ (selL (bitP set) l l.length).length > (selL (fun i => !q i) l l.length).length) := by
  obtain ⟨hc, hl, hg⟩ := loadE_zero hE
  obtain ⟨x, hx⟩ := shed_some hE
  obtain ⟨h1, h2, h3⟩ := fst_some hx
  obtain ⟨s, _, rfl⟩ := sub_pick h1
  refine ⟨s.testBit, ?_, ?_, ?_, ?_, ?_, ?_, ?_⟩
  · unfold shedA fstA
    rw [if_pos hE, hx]
  · intro h
    have h4 := low_le_high hg
    refine ⟨by omega, ?_⟩
    have h5 := h3 [] (List.nil_sublist _) (decide_eq_true (by show sumB highM l - sumB (heelAt l) [] ≤ b.moment; rw [show sumB (heelAt l) [] = 0 from rfl]; omega))
    unfold befB at h5
    split at h5
    · rename_i h6
      simpa using h6.symm
    · rw [decide_eq_false_iff_not, List.length_nil] at h5
      omega
  · intro h h4
    have h5 := List.eq_nil_of_length_eq_zero h4
    rw [h5] at h2
    have h6 : sumB highM l - sumB (heelAt l) [] ≤ b.moment := of_decide_eq_true h2
    rw [show sumB (heelAt l) [] = 0 from rfl] at h6
    omega
  · have := selL_facts (fun i => !s.testBit i) l l.length (Nat.le_refl _)
    exact loadE_ok hc (by rw [this.1]; exact Nat.le_trans (sub_len (pick_sub _ _)) hl) fun x hx => hg x (this.2.2 x hx)
  · have := selL_facts (bitP set) l l.length (Nat.le_refl _)
    exact loadE_ok hc (by rw [this.1]; exact Nat.le_trans (sub_len (pick_sub _ _)) hl) fun x hx => hg x (this.2.2 x hx)
  · rw [(selL_facts _ l l.length (Nat.le_refl _)).2.1]
    have h4 := sum_pick (f := heelAt l) s.testBit l.length
    have h5 := heels_all l
    have h6 := of_decide_eq_true h2
    unfold heelsL at h5 h6 ⊢
    omega
  · intro h
    rw [(selL_facts _ l l.length (Nat.le_refl _)).2.1] at h
    rw [(selL_facts _ l l.length (Nat.le_refl _)).1, (selL_facts _ l l.length (Nat.le_refl _)).1]
    have h4 := sum_pick (f := heelAt l) (bitP set) l.length
    have h5 := heels_all l
    have h6 := h3 (pick (fun i => !bitP set i) l.length) (pick_sub _ _) (by
      unfold shedB
      rw [decide_eq_true_eq]
      unfold heelsL at h h5 ⊢
      omega)
    have h7 := pick_lens (bitP set) l.length
    have h8 := pick_lens s.testBit l.length
    unfold befB at h6
    split at h6
    · omega
    · rw [decide_eq_false_iff_not] at h6
      omega
theorem ldc_mk (a b c : Int) : ldc (a, b, c) = [I a, I b, I c] := rfl
theorem launchUpright_fn (w : World) (hw : Ways w) (b : Cls) (v : Value) (l : List (Int × Int × Int)) (hs : Sl w v 3 (cat ldc l)) (u : Value) (ws : List Int) (hu0 : Sl w u 1 (ints ws)) (set : Int) :
    SX.Fn Tryd.prog 12 [clv b, v, u, I set] w (fun _ => False) fun r N => r = .bool true := by
  have hwk := fun (H : List HO) w' (hp : Hp ⟨w, fun _ => False⟩ H w') => works5_fn w' (hw.hp hp)
  obtain ⟨a, n, c, rfl⟩ := hs.shape
  have hn := hs.le ldc_len (by omega)
  subst hn
  obtain ⟨au, nu, cu, rfl⟩ := hu0.shape
  have hn := hu0.le i1_len (by omega)
  subst hn
  have hr := hs.rd0
  have hrw := hu0.rd0
  have dn : ∀ (g : Nat) (xs : List Value), det0 g xs = none := fun _ _ => rfl
  have hlo := fun (H : List HO) w' (hp : Hp ⟨w, fun _ => False⟩ H w') => rloads_fn w' _ b l (hs.hp (fun _ _ => id) hp)
  by_cases hE : loadE b l = 0
  case neg =>
    have e1 : (loadE b l = 0) = False := eq_false hE
    unfold clv
    unfold clv at hlo
    refine walk [] [] (det0_ok _ _) Tryd.func12 rfl Tryd.ntmps12 res12 (by kernel_rfl) no_facts ?_
    simp (config := { maxSteps := 4000000 }) only [↓sx0, ↓sx1, ↓sx2, ↓sx3, ↓sx4, ↓sx5, ↓sx6, sx0, sx1, sx2, sx3, sx4, sx5, sx6, tf12, ev3_hold, sxo, sxc, sxp, sxq, sxr, sxs, sxl, sxm, Int.reduceBEq, Int.reduceBNe, Int.reduceLT, Int.reduceLE, Int.reduceEq, Int.reduceGT, Int.reduceGE, Int.reduceToNat, ↓reduceIte, List.reduceReplicate, Nat.reduceAdd, Nat.reduceSub, Nat.reduceMul, Nat.reduceLT, Nat.reduceLeDiff, Nat.reduceBEq, Nat.reduceEqDiff, dn]
    refine CallOb.pureH (fun w' hp => hlo _ w' hp) ?_
    rintro r N rfl
    refine ⟨?_⟩
    simp (config := { maxSteps := 4000000 }) only [↓sx0, ↓sx1, ↓sx2, ↓sx3, ↓sx4, ↓sx5, ↓sx6, sx0, sx1, sx2, sx3, sx4, sx5, sx6, tf12, ev3_hold, sxo, sxc, sxp, sxq, sxr, sxs, sxl, sxm, Int.reduceBEq, Int.reduceBNe, Int.reduceLT, Int.reduceLE, Int.reduceEq, Int.reduceGT, Int.reduceGE, Int.reduceToNat, ↓reduceIte, List.reduceReplicate, Nat.reduceAdd, Nat.reduceSub, Nat.reduceMul, Nat.reduceLT, Nat.reduceLeDiff, Nat.reduceBEq, Nat.reduceEqDiff, e1, dn]
    refine CallOb.pureH (fun w' hp => hwk _ w' hp) ?_
    rintro rW NW rfl
    refine ⟨?_⟩
    simp (config := { maxSteps := 4000000 }) only [↓sx0, ↓sx1, ↓sx2, ↓sx3, ↓sx4, ↓sx5, ↓sx6, sx0, sx1, sx2, sx3, sx4, sx5, sx6, tf12, ev3_hold, sxo, sxc, sxp, sxq, sxr, sxs, sxl, sxm, Int.reduceBEq, Int.reduceBNe, Int.reduceLT, Int.reduceLE, Int.reduceEq, Int.reduceGT, Int.reduceGE, Int.reduceToNat, ↓reduceIte, List.reduceReplicate, Nat.reduceAdd, Nat.reduceSub, Nat.reduceMul, Nat.reduceLT, Nat.reduceLeDiff, Nat.reduceBEq, Nat.reduceEqDiff]
  obtain ⟨hcl, hl10, hg⟩ := loadE_zero hE
  obtain ⟨q, hshA, hsure, hnsure, hk0, ho0, hkm, hom⟩ := upright_plain hE set
  have hkf := fun i hi => selL_facts (fun i => !q i) l i hi
  have hof := fun i hi => selL_facts (bitP set) l i hi
  have hr1 := fun w' (hp : Sl w' (.slice a l.length c) 3 (cat ldc l)) => rights_fn w' _ b l hp (by omega)
  have hr2 := fun w' (y : Value) (hp : Sl w' y 3 (cat ldc (selL (fun i => !q i) l l.length))) => rights_fn w' y b _ hp (by have := (hkf l.length (Nat.le_refl _)).1; have := sub_len (pick_sub (fun i => !q i) l.length); omega)
  have hr3 := fun w' (y : Value) (hp : Sl w' y 3 (cat ldc (selL (bitP set) l l.length))) => rights_fn w' y b _ hp (by have := (hof l.length (Nat.le_refl _)).1; have := sub_len (pick_sub (bitP set) l.length); omega)
  have hb1 := fun w' (hp : Sl w' (.slice a l.length c) 3 (cat ldc l)) => shed_fn w' _ b l hp (by omega)
  have hb3 := fun (N : List HO) (q : Value) (h : ShedP b l q N) => h.ans
  simp only [hshA] at hb3
  unfold rightsV at hr1 hr2 hr3
  simp only [if_pos hE] at hr1
  simp only [if_pos hk0, decide_eq_true hkm] at hr2
  simp only [if_pos ho0] at hr3
  obtain ⟨SU, hSU⟩ : ∃ SU, decide (sumB highM l ≤ b.moment) = SU := ⟨_, rfl⟩
  obtain ⟨MA, hMA⟩ : ∃ MA, decide (sumB lowM l ≤ b.moment) = MA := ⟨_, rfl⟩
  obtain ⟨SO, hSO⟩ : ∃ SO, decide (sumB highM (selL (bitP set) l l.length) ≤ b.moment) = SO := ⟨_, rfl⟩
  obtain ⟨M2, hM2⟩ : ∃ M2, decide (sumB lowM (selL (fun i => !q i) l l.length) ≤ b.moment) = M2 := ⟨_, rfl⟩
  obtain ⟨M3, hM3⟩ : ∃ M3, decide (sumB lowM (selL (bitP set) l l.length) ≤ b.moment) = M3 := ⟨_, rfl⟩
  simp only [hSU, hMA] at hr1
  simp only [hM2] at hr2
  simp only [hSO, hM3] at hr3
  have hpat := fun i hi => pick_at (q := q) (n := l.length) (i := i) hi
  obtain ⟨X, hX⟩ : ∃ X, pick q l.length = X := ⟨_, rfl⟩
  rw [hX] at hsure hnsure
  simp only [hX] at hb3 hpat
  obtain ⟨NN, hNN⟩ : ∃ NN : Nat → Nat, ∀ i, (pick q i).length = NN i := ⟨_, fun _ => rfl⟩
  have hNNs : ∀ i, NN (i + 1) = NN i + if q i then 1 else 0 := fun i => by rw [← hNN, ← hNN, pick_succ, List.length_append]; cases q i <;> simp
  have hNNb : ∀ i, NN i ≤ i := fun i => by rw [← hNN]; exact sub_len (pick_sub q i)
  have hNNl : NN l.length = X.length := by rw [← hNN, hX]
  have hNN0 : NN 0 = 0 := by rw [← hNN]; rfl
  simp only [hNN] at hpat
  obtain ⟨KL, hKL⟩ : ∃ KL : Nat → List (Int × Int × Int), ∀ i, selL (fun i => !q i) l i = KL i := ⟨_, fun _ => rfl⟩
  obtain ⟨OL, hOL⟩ : ∃ OL : Nat → List (Int × Int × Int), ∀ i, selL (bitP set) l i = OL i := ⟨_, fun _ => rfl⟩
  have hKs : ∀ i x, l[i]? = some x → KL (i + 1) = KL i ++ (if q i then [] else [x]) := fun i x h => by rw [← hKL, ← hKL, selL_succ _ h]; cases q i <;> rfl
  have hOs : ∀ i x, l[i]? = some x → OL (i + 1) = OL i ++ (if bitP set i then [x] else []) := fun i x h => by rw [← hOL, ← hOL, selL_succ _ h]
  have hKb : ∀ i, i ≤ l.length → (KL i).length ≤ 10 := fun i hi => by rw [← hKL, (hkf i hi).1]; have := sub_len (pick_sub (fun i => !q i) i); omega
  have hOb : ∀ i, i ≤ l.length → (OL i).length ≤ 10 := fun i hi => by rw [← hOL, (hof i hi).1]; have := sub_len (pick_sub (bitP set) i); omega
  have hK0 : KL 0 = [] := by rw [← hKL]; rfl
  have hO0 : OL 0 = [] := by rw [← hOL]; rfl
  simp only [hKL] at hr2 hom
  simp only [hOL] at hr3 hom hSO
  clear hkf hof hkm hk0 ho0
  have hbp : ∀ i, bitP set i = decide (bitS .and .i64 (set.fdiv (2 ^ (min i IntKind.i64.bits))) 1 = 1) := fun i => rfl
  obtain ⟨p, hp⟩ : ∃ p, bitP set = p := ⟨_, rfl⟩
  simp only [hp] at hbp hOs
  have hlow := low_le_high hg
  have hc1 : SU = true → MA = true ∧ X.length = 0 := fun h => by
    rw [← hSU] at h
    have := hsure (of_decide_eq_true h)
    exact ⟨by rw [← hMA]; exact decide_eq_true this.1, this.2⟩
  have hc2 : SU = false → X.length ≠ 0 := fun h => by
    rw [← hSU] at h
    exact hnsure (of_decide_eq_false h)
  have hc3 : SO = true → ¬ (OL l.length).length > (KL l.length).length := fun h => by
    rw [← hSO] at h
    exact hom (of_decide_eq_true h)
  unfold clv
  unfold clv at hlo hr1 hr2 hr3 hb1
  rw [hE] at hlo
  have hx0 : (SU = true → ((X.length : Int) = 0) = True) ∧ (SU = false → ((X.length : Int) = 0) = False) := ⟨fun h => eq_true (by have := (hc1 h).2; omega), fun h => eq_false (by have := hc2 h; omega)⟩
  refine walkC [14, 30, 42] [] [] (det0_ok _ _) Tryd.func12 rfl Tryd.ntmps12 res12 (by kernel_rfl) no_facts ?_
  simp (config := { maxSteps := 4000000 }) only [↓sx0, ↓sx1, ↓sx2, ↓sx3, ↓sx4, ↓sx5, ↓sx6, sx0, sx1, sx2, sx3, sx4, sx5, sx6, tf12, ev3_hold, sxo, sxc, sxp, sxq, sxr, sxs, sxl, sxm, Int.reduceBEq, Int.reduceBNe, Int.reduceLT, Int.reduceLE, Int.reduceEq, Int.reduceGT, Int.reduceGE, Int.reduceToNat, ↓reduceIte, List.reduceReplicate, Nat.reduceAdd, Nat.reduceSub, Nat.reduceMul, Nat.reduceLT, Nat.reduceLeDiff, Nat.reduceBEq, Nat.reduceEqDiff, dn]
  refine CallOb.pureH (fun w' hp => hlo _ w' hp) ?_
  rintro r N rfl
  refine ⟨?_⟩
  simp (config := { maxSteps := 4000000 }) only [↓sx0, ↓sx1, ↓sx2, ↓sx3, ↓sx4, ↓sx5, ↓sx6, sx0, sx1, sx2, sx3, sx4, sx5, sx6, tf12, ev3_hold, sxo, sxc, sxp, sxq, sxr, sxs, sxl, sxm, Int.reduceBEq, Int.reduceBNe, Int.reduceLT, Int.reduceLE, Int.reduceEq, Int.reduceGT, Int.reduceGE, Int.reduceToNat, ↓reduceIte, List.reduceReplicate, Nat.reduceAdd, Nat.reduceSub, Nat.reduceMul, Nat.reduceLT, Nat.reduceLeDiff, Nat.reduceBEq, Nat.reduceEqDiff, dn]
  refine CallOb.pureH (fun w' hp => hr1 w' (hs.hp (fun _ _ => id) hp)) ?_
  rintro r N2 rfl
  refine ⟨?_⟩
  simp (config := { maxSteps := 4000000 }) only [↓sx0, ↓sx1, ↓sx2, ↓sx3, ↓sx4, ↓sx5, ↓sx6, sx0, sx1, sx2, sx3, sx4, sx5, sx6, tf12, ev3_hold, sxo, sxc, sxp, sxq, sxr, sxs, sxl, sxm, Int.reduceBEq, Int.reduceBNe, Int.reduceLT, Int.reduceLE, Int.reduceEq, Int.reduceGT, Int.reduceGE, Int.reduceToNat, ↓reduceIte, List.reduceReplicate, Nat.reduceAdd, Nat.reduceSub, Nat.reduceMul, Nat.reduceLT, Nat.reduceLeDiff, Nat.reduceBEq, Nat.reduceEqDiff, dn]
  refine CallOb.pureH (fun w' hp => hb1 w' (hs.hp (fun _ _ => id) hp)) ?_
  rintro qv N3 hq1
  obtain ⟨a1, c1, rfl, _, hv1⟩ := hb3 _ _ hq1
  obtain ⟨HB, hHB⟩ : ∃ HB, N3 ++ (N2 ++ N) = HB := ⟨_, rfl⟩
  have hrX := hv1 ⟨w, fun _ => False⟩
  have hmN3 : ∀ h ∈ N3, h ∈ HB := fun h hh => by rw [← hHB]; exact List.mem_append_left _ hh
  have hcase : (SU = true ∧ MA = true) ∨ (SU = false ∧ MA = true) ∨ (SU = false ∧ MA = false) := by
    cases SU with
    | true => exact .inl ⟨rfl, (hc1 rfl).1⟩
    | false => cases MA <;> simp
  have e5 : ((X.length : Int) = 0) = (SU = true) := propext ⟨fun h => by cases SU with
    | true => rfl
    | false => exact absurd (by omega) (hc2 rfl), fun h => by have := (hc1 h).2; omega⟩
  have e6 : (SO = true) → (((OL l.length).length : Int) > ((KL l.length).length : Int)) = False := fun h => eq_false (by have := hc3 h; omega)
  have hend1 : ∀ s, s ≤ sumB highM l → SU = true → s ≤ b.moment := fun s h1 h => by
    rw [h] at hSU
    have := of_decide_eq_true hSU
    omega
  have hend2 : ∀ s, sumB lowM l ≤ s → MA = false → ¬ s ≤ b.moment := fun s h1 h => by
    rw [h] at hMA
    have := of_decide_eq_false hMA
    omega
  obtain ⟨LO, hLO⟩ : ∃ LO : Nat → Int, ∀ i, sumB lowM (l.take i) = LO i := ⟨_, fun _ => rfl⟩
  obtain ⟨HI, hHI⟩ : ∃ HI : Nat → Int, ∀ i, sumB highM (l.take i) = HI i := ⟨_, fun _ => rfl⟩
  have hLs : ∀ i x, l[i]? = some x → LO (i + 1) = LO i + lowM x := fun i x h => by rw [← hLO, ← hLO, sumB_take lowM h]
  have hHs : ∀ i x, l[i]? = some x → HI (i + 1) = HI i + highM x := fun i x h => by rw [← hHI, ← hHI, sumB_take highM h]
  have hL0 : LO 0 = 0 := by rw [← hLO]; rfl
  have hH0 : HI 0 = 0 := by rw [← hHI]; rfl
  have hLl : LO l.length = sumB lowM l := by rw [← hLO, List.take_length]
  have hHl : HI l.length = sumB highM l := by rw [← hHI, List.take_length]
  have hLb : ∀ i, 0 ≤ LO i := fun i => by rw [← hLO]; exact (sumB_bound lowM 50000 (l.take i) fun x hx => (goodM (hg x (List.mem_of_mem_take hx))).1).1
  have hHb : ∀ i, HI i ≤ 500000 := fun i => by
    have h1 := (sumB_bound highM 50000 (l.take i) fun x hx => (goodM (hg x (List.mem_of_mem_take hx))).2.1).2
    have h2 : (l.take i).length * 50000 ≤ 10 * 50000 := Nat.mul_le_mul_right 50000 (by rw [List.length_take]; omega)
    rw [hHI] at h1
    omega
  rw [← hLl] at hend2
  rw [← hHl] at hend1
  clear hc1 hc2 hc3 hsure hnsure hom hSU hMA hSO hM2 hM3 hE hlow hx0 hshA
  rw [hHB]
  refine ⟨?_⟩
  simp (config := { maxSteps := 4000000 }) only [↓sx0, ↓sx1, ↓sx2, ↓sx3, ↓sx4, ↓sx5, ↓sx6, sx0, sx1, sx2, sx3, sx4, sx5, sx6, tf12, ev3_hold, sxo, sxc, sxp, sxq, sxr, sxs, sxl, sxm, Int.reduceBEq, Int.reduceBNe, Int.reduceLT, Int.reduceLE, Int.reduceEq, Int.reduceGT, Int.reduceGE, Int.reduceToNat, ↓reduceIte, List.reduceReplicate, Nat.reduceAdd, Nat.reduceSub, Nat.reduceMul, Nat.reduceLT, Nat.reduceLeDiff, Nat.reduceBEq, Nat.reduceEqDiff]
  refine cut_constH [(44, 70)] (fun _ : Unit => []) (fun _ H2 => H2 = HB) ?_ ?_
  · rcases hcase with ⟨rfl, rfl⟩ | ⟨rfl, rfl⟩ | ⟨rfl, rfl⟩
    · refine ⟨?_⟩
      simp (config := { maxSteps := 4000000 }) only [↓sx0, ↓sx1, ↓sx2, ↓sx3, ↓sx4, ↓sx5, ↓sx6, sx0, sx1, sx2, sx3, sx4, sx5, sx6, tf12, ev3_hold, sxo, sxc, sxp, sxq, sxr, sxs, sxl, sxm, Int.reduceBEq, Int.reduceBNe, Int.reduceLT, Int.reduceLE, Int.reduceEq, Int.reduceGT, Int.reduceGE, Int.reduceToNat, ↓reduceIte, List.reduceReplicate, Nat.reduceAdd, Nat.reduceSub, Nat.reduceMul, Nat.reduceLT, Nat.reduceLeDiff, Nat.reduceBEq, Nat.reduceEqDiff, e5]
      exact ⟨(), _, HImp.refl _ _, rfl⟩
    · refine ⟨?_⟩
      simp (config := { maxSteps := 4000000 }) only [↓sx0, ↓sx1, ↓sx2, ↓sx3, ↓sx4, ↓sx5, ↓sx6, sx0, sx1, sx2, sx3, sx4, sx5, sx6, tf12, ev3_hold, sxo, sxc, sxp, sxq, sxr, sxs, sxl, sxm, Int.reduceBEq, Int.reduceBNe, Int.reduceLT, Int.reduceLE, Int.reduceEq, Int.reduceGT, Int.reduceGE, Int.reduceToNat, ↓reduceIte, List.reduceReplicate, Nat.reduceAdd, Nat.reduceSub, Nat.reduceMul, Nat.reduceLT, Nat.reduceLeDiff, Nat.reduceBEq, Nat.reduceEqDiff, e5]
      exact ⟨(), _, HImp.refl _ _, rfl⟩
    · refine ⟨?_⟩
      simp (config := { maxSteps := 4000000 }) only [↓sx0, ↓sx1, ↓sx2, ↓sx3, ↓sx4, ↓sx5, ↓sx6, sx0, sx1, sx2, sx3, sx4, sx5, sx6, tf12, ev3_hold, sxo, sxc, sxp, sxq, sxr, sxs, sxl, sxm, Int.reduceBEq, Int.reduceBNe, Int.reduceLT, Int.reduceLE, Int.reduceEq, Int.reduceGT, Int.reduceGE, Int.reduceToNat, ↓reduceIte, List.reduceReplicate, Nat.reduceAdd, Nat.reduceSub, Nat.reduceMul, Nat.reduceLT, Nat.reduceLeDiff, Nat.reduceBEq, Nat.reduceEqDiff, e5]
      exact ⟨(), _, HImp.refl _ _, rfl⟩
  rintro _ H2 g0 hH2
  have hH3 := hH2.symm
  subst hH3
  refine ⟨?_⟩
  simp (config := { maxSteps := 4000000 }) only [↓sx0, ↓sx1, ↓sx2, ↓sx3, ↓sx4, ↓sx5, ↓sx6, sx0, sx1, sx2, sx3, sx4, sx5, sx6, tf12, ev3_hold, sxo, sxc, sxp, sxq, sxr, sxs, sxl, sxm, Int.reduceBEq, Int.reduceBNe, Int.reduceLT, Int.reduceLE, Int.reduceEq, Int.reduceGT, Int.reduceGE, Int.reduceToNat, ↓reduceIte, List.reduceReplicate, Nat.reduceAdd, Nat.reduceSub, Nat.reduceMul, Nat.reduceLT, Nat.reduceLeDiff, Nat.reduceBEq, Nat.reduceEqDiff]
  refine loop_constH (HO.row (.slice none 0 0) 77 3 (cat ldc (KL 0)) :: HO.row (.slice none 0 0) 77 3 (cat ldc (OL 0)) :: HB) (by rw [hK0, hO0]; exact (HImp.nilRow _ _ _ _).trans (HImp.nilRow _ _ _ _)) [(14, 17), (71, 110)] (fun q : Nat × (Option Addr × Nat) × Option Addr × Nat => [(14, .slice q.2.1.1 (KL q.1).length q.2.1.2), (15, .slice q.2.2.1 (OL q.1).length q.2.2.2), (16, I (NN q.1)), (17, I q.1)])
    (fun q H1 => q.1 ≤ l.length ∧ (q.2.1.1 = none → KL q.1 = []) ∧ (q.2.2.1 = none → OL q.1 = []) ∧ H1 = HO.row (.slice q.2.1.1 (KL q.1).length q.2.1.2) 77 3 (cat ldc (KL q.1)) :: HO.row (.slice q.2.2.1 (OL q.1).length q.2.2.2) 77 3 (cat ldc (OL q.1)) :: HB) (fun q => l.length - q.1) (0, (none, 0), none, 0) ?_ ⟨Nat.zero_le _, fun _ => hK0, fun _ => hO0, by rw [hK0, hO0]; rfl⟩ ?_
  · rw [hK0, hO0, hNN0]
    simp (config := { maxSteps := 4000000 }) only [↓sx0, ↓sx1, ↓sx2, ↓sx3, ↓sx4, ↓sx5, ↓sx6, sx0, sx1, sx2, sx3, sx4, sx5, sx6, tf12, ev3_hold, sxo, sxc, sxp, sxq, sxr, sxs, sxl, sxm, Int.reduceBEq, Int.reduceBNe, Int.reduceLT, Int.reduceLE, Int.reduceEq, Int.reduceGT, Int.reduceGE, Int.reduceToNat, ↓reduceIte, List.reduceReplicate, Nat.reduceAdd, Nat.reduceSub, Nat.reduceMul, Nat.reduceLT, Nat.reduceLeDiff, Nat.reduceBEq, Nat.reduceEqDiff]
    try simp
  rintro ⟨i, ⟨ka, kc⟩, oa, oc⟩ H1 g1 ⟨hi, hkn, hon, hH1⟩
  simp only [] at hi hkn hon hH1
  have hH2 := hH1
  subst hH2
  clear hH1
  by_cases hin : i = l.length
  case neg =>
    have e7 : ((i : Int) < (l.length : Int)) = True := eq_true (by omega)
    have e8 : wr (i + 1) = ((i + 1 : Nat) : Int) := (wrap_id (by omega)).trans (by omega)
    have e9 := u64w (i := i) (by omega)
    have hil : i < l.length := by omega
    have hu := List.getElem?_eq_getElem hil
    obtain ⟨⟨x1, x2, x3⟩, hx⟩ : ∃ x, l[i] = x := ⟨_, rfl⟩
    rw [hx] at hu
    have hKS := hKs i _ hu
    have hOS := hOs i _ hu
    have hNS := hNNs i
    have hNB := hNNb i
    have hkb := hKb i hi
    have hob := hOb i hi
    have hbi := hbp i
    have hpa := hpat i hil
    have eN : wr ((NN i : Int) + 1) = ((NN i + 1 : Nat) : Int) := (wrap_id (by omega)).trans (by omega)
    have hq3 : (q i = true ∧ X[NN i]? = some (i : Int)) ∨ (q i = false ∧ ∃ y, X[NN i]? = some y ∧ (i : Int) < y) ∨ (q i = false ∧ X.length ≤ NN i) := by
      cases hqi : q i with
      | true => exact .inl ⟨rfl, hpa.1 hqi⟩
      | false =>
        by_cases hlt : NN i < X.length
        · exact .inr (.inl ⟨rfl, _, List.getElem?_eq_getElem hlt, hpa.2 hqi _ (List.getElem?_eq_getElem hlt)⟩)
        · exact .inr (.inr ⟨rfl, by omega⟩)
    refine ⟨?_⟩
    simp (config := { maxSteps := 4000000 }) only [↓sx0, ↓sx1, ↓sx2, ↓sx3, ↓sx4, ↓sx5, ↓sx6, sx0, sx1, sx2, sx3, sx4, sx5, sx6, tf12, ev3_hold, sxo, sxc, sxp, sxq, sxr, sxs, sxl, sxm, Int.reduceBEq, Int.reduceBNe, Int.reduceLT, Int.reduceLE, Int.reduceEq, Int.reduceGT, Int.reduceGE, Int.reduceToNat, ↓reduceIte, List.reduceReplicate, Nat.reduceAdd, Nat.reduceSub, Nat.reduceMul, Nat.reduceLT, Nat.reduceLeDiff, Nat.reduceBEq, Nat.reduceEqDiff, e7]
    refine cut_constH [(14, 14), (16, 16), (77, 97)] (fun r : Option Addr × Nat => [(14, .slice r.1 (KL (i + 1)).length r.2), (16, I (NN (i + 1)))]) (fun r H2 => (r.1 = none → KL (i + 1) = []) ∧ H2 = HO.row (.slice r.1 (KL (i + 1)).length r.2) 77 3 (cat ldc (KL (i + 1))) :: HO.row (.slice oa (OL i).length oc) 77 3 (cat ldc (OL i)) :: HB) ?_ ?_
    · rcases hq3 with ⟨hqi, hXi⟩ | ⟨hqi, y, hXi, hyi⟩ | ⟨hqi, hXn⟩
      · have hXl : NN i < X.length := (List.getElem?_eq_some_iff.1 hXi).1
        have e10 : ((NN i : Int) < (X.length : Int)) = True := eq_true (by omega)
        rw [hqi, if_pos rfl] at hKS hNS
        rw [List.append_nil] at hKS
        refine ⟨?_⟩
        simp (config := { maxSteps := 4000000 }) only [↓sx0, ↓sx1, ↓sx2, ↓sx3, ↓sx4, ↓sx5, ↓sx6, sx0, sx1, sx2, sx3, sx4, sx5, sx6, tf12, ev3_hold, sxo, sxc, sxp, sxq, sxr, sxs, sxl, sxm, Int.reduceBEq, Int.reduceBNe, Int.reduceLT, Int.reduceLE, Int.reduceEq, Int.reduceGT, Int.reduceGE, Int.reduceToNat, ↓reduceIte, List.reduceReplicate, Nat.reduceAdd, Nat.reduceSub, Nat.reduceMul, Nat.reduceLT, Nat.reduceLeDiff, Nat.reduceBEq, Nat.reduceEqDiff, e10]
        refine amid (at_1 (hrX _ (fun h hh => List.mem_cons_of_mem _ (List.mem_cons_of_mem _ (hmN3 h hh)))) i1_len hXi rfl fun ad => ?_)
        simp (config := { maxSteps := 4000000 }) only [↓sx0, ↓sx1, ↓sx2, ↓sx3, ↓sx4, ↓sx5, ↓sx6, sx0, sx1, sx2, sx3, sx4, sx5, sx6, tf12, ev3_hold, sxo, sxc, sxp, sxq, sxr, sxs, sxl, sxm, Int.reduceBEq, Int.reduceBNe, Int.reduceLT, Int.reduceLE, Int.reduceEq, Int.reduceGT, Int.reduceGE, Int.reduceToNat, ↓reduceIte, List.reduceReplicate, Nat.reduceAdd, Nat.reduceSub, Nat.reduceMul, Nat.reduceLT, Nat.reduceLeDiff, Nat.reduceBEq, Nat.reduceEqDiff, eN]
        exact ⟨(ka, kc), _, by simp only [hKS, hNS, and_self], HImp.refl _ _, by simp only [hKS]; exact hkn, by simp only [hKS]⟩
      · have hXl : NN i < X.length := (List.getElem?_eq_some_iff.1 hXi).1
        have e10 : ((NN i : Int) < (X.length : Int)) = True := eq_true (by omega)
        have e11 : (y = (i : Int)) = False := eq_false (by omega)
        rw [hqi, if_neg (by simp)] at hKS hNS
        have hNS : NN (i + 1) = NN i := by omega
        have hKl : (KL (i + 1)).length = (KL i).length + 1 := by rw [hKS, List.length_append, List.length_singleton]
        refine ⟨?_⟩
        simp (config := { maxSteps := 4000000 }) only [↓sx0, ↓sx1, ↓sx2, ↓sx3, ↓sx4, ↓sx5, ↓sx6, sx0, sx1, sx2, sx3, sx4, sx5, sx6, tf12, ev3_hold, sxo, sxc, sxp, sxq, sxr, sxs, sxl, sxm, Int.reduceBEq, Int.reduceBNe, Int.reduceLT, Int.reduceLE, Int.reduceEq, Int.reduceGT, Int.reduceGE, Int.reduceToNat, ↓reduceIte, List.reduceReplicate, Nat.reduceAdd, Nat.reduceSub, Nat.reduceMul, Nat.reduceLT, Nat.reduceLeDiff, Nat.reduceBEq, Nat.reduceEqDiff, e10]
        refine amid (at_1 (hrX _ (fun h hh => List.mem_cons_of_mem _ (List.mem_cons_of_mem _ (hmN3 h hh)))) i1_len hXi rfl fun ad => ?_)
        simp (config := { maxSteps := 4000000 }) only [↓sx0, ↓sx1, ↓sx2, ↓sx3, ↓sx4, ↓sx5, ↓sx6, sx0, sx1, sx2, sx3, sx4, sx5, sx6, tf12, ev3_hold, sxo, sxc, sxp, sxq, sxr, sxs, sxl, sxm, Int.reduceBEq, Int.reduceBNe, Int.reduceLT, Int.reduceLE, Int.reduceEq, Int.reduceGT, Int.reduceGE, Int.reduceToNat, ↓reduceIte, List.reduceReplicate, Nat.reduceAdd, Nat.reduceSub, Nat.reduceMul, Nat.reduceLT, Nat.reduceLeDiff, Nat.reduceBEq, Nat.reduceEqDiff, e11]
        refine at_n (hr _) ldc_len (by omega) hu fun ad => ?_
        simp (config := { maxSteps := 4000000 }) only [↓sx0, ↓sx1, ↓sx2, ↓sx3, ↓sx4, ↓sx5, ↓sx6, sx0, sx1, sx2, sx3, sx4, sx5, sx6, tf12, ev3_hold, sxo, sxc, sxp, sxq, sxr, sxs, sxl, sxm, Int.reduceBEq, Int.reduceBNe, Int.reduceLT, Int.reduceLE, Int.reduceEq, Int.reduceGT, Int.reduceGE, Int.reduceToNat, ↓reduceIte, List.reduceReplicate, Nat.reduceAdd, Nat.reduceSub, Nat.reduceMul, Nat.reduceLT, Nat.reduceLeDiff, Nat.reduceBEq, Nat.reduceEqDiff, ldc_mk]
        intro b4
        refine app_one (f := ldc) (l := KL i) (x1, x2, x3) (HImp.refl _ _) ldc_len ldc_one (by omega) fun ad3 c3 => ?_
        rw [← hKS, ← hKl]
        simp (config := { maxSteps := 4000000 }) only [↓sx0, ↓sx1, ↓sx2, ↓sx3, ↓sx4, ↓sx5, ↓sx6, sx0, sx1, sx2, sx3, sx4, sx5, sx6, tf12, ev3_hold, sxo, sxc, sxp, sxq, sxr, sxs, sxl, sxm, Int.reduceBEq, Int.reduceBNe, Int.reduceLT, Int.reduceLE, Int.reduceEq, Int.reduceGT, Int.reduceGE, Int.reduceToNat, ↓reduceIte, List.reduceReplicate, Nat.reduceAdd, Nat.reduceSub, Nat.reduceMul, Nat.reduceLT, Nat.reduceLeDiff, Nat.reduceBEq, Nat.reduceEqDiff]
        exact ⟨(some ad3, c3), _, by simp only [hNS, and_self], HImp.refl _ _, fun h => (by cases h), rfl⟩
      · have e10 : ((NN i : Int) < (X.length : Int)) = False := eq_false (by omega)
        rw [hqi, if_neg (by simp)] at hKS hNS
        have hNS : NN (i + 1) = NN i := by omega
        have hKl : (KL (i + 1)).length = (KL i).length + 1 := by rw [hKS, List.length_append, List.length_singleton]
        refine ⟨?_⟩
        simp (config := { maxSteps := 4000000 }) only [↓sx0, ↓sx1, ↓sx2, ↓sx3, ↓sx4, ↓sx5, ↓sx6, sx0, sx1, sx2, sx3, sx4, sx5, sx6, tf12, ev3_hold, sxo, sxc, sxp, sxq, sxr, sxs, sxl, sxm, Int.reduceBEq, Int.reduceBNe, Int.reduceLT, Int.reduceLE, Int.reduceEq, Int.reduceGT, Int.reduceGE, Int.reduceToNat, ↓reduceIte, List.reduceReplicate, Nat.reduceAdd, Nat.reduceSub, Nat.reduceMul, Nat.reduceLT, Nat.reduceLeDiff, Nat.reduceBEq, Nat.reduceEqDiff, e10]
        refine at_n (hr _) ldc_len (by omega) hu fun ad => ?_
        simp (config := { maxSteps := 4000000 }) only [↓sx0, ↓sx1, ↓sx2, ↓sx3, ↓sx4, ↓sx5, ↓sx6, sx0, sx1, sx2, sx3, sx4, sx5, sx6, tf12, ev3_hold, sxo, sxc, sxp, sxq, sxr, sxs, sxl, sxm, Int.reduceBEq, Int.reduceBNe, Int.reduceLT, Int.reduceLE, Int.reduceEq, Int.reduceGT, Int.reduceGE, Int.reduceToNat, ↓reduceIte, List.reduceReplicate, Nat.reduceAdd, Nat.reduceSub, Nat.reduceMul, Nat.reduceLT, Nat.reduceLeDiff, Nat.reduceBEq, Nat.reduceEqDiff, ldc_mk]
        intro b4
        refine app_one (f := ldc) (l := KL i) (x1, x2, x3) (HImp.refl _ _) ldc_len ldc_one (by omega) fun ad3 c3 => ?_
        rw [← hKS, ← hKl]
        simp (config := { maxSteps := 4000000 }) only [↓sx0, ↓sx1, ↓sx2, ↓sx3, ↓sx4, ↓sx5, ↓sx6, sx0, sx1, sx2, sx3, sx4, sx5, sx6, tf12, ev3_hold, sxo, sxc, sxp, sxq, sxr, sxs, sxl, sxm, Int.reduceBEq, Int.reduceBNe, Int.reduceLT, Int.reduceLE, Int.reduceEq, Int.reduceGT, Int.reduceGE, Int.reduceToNat, ↓reduceIte, List.reduceReplicate, Nat.reduceAdd, Nat.reduceSub, Nat.reduceMul, Nat.reduceLT, Nat.reduceLeDiff, Nat.reduceBEq, Nat.reduceEqDiff]
        exact ⟨(some ad3, c3), _, by simp only [hNS, and_self], HImp.refl _ _, fun h => (by cases h), rfl⟩
    rintro ⟨kb, kd⟩ H2 g3 ⟨hkn2, hH2⟩
    simp only [] at hkn2 hH2
    have hH3 := hH2
    subst hH3
    clear hH2
    cases hpi : p i with
    | false =>
      rw [hpi, if_neg (by simp), List.append_nil] at hOS
      rw [hpi] at hbi
      have e3 : (bitS .and .i64 (set.fdiv (2 ^ (min i IntKind.i64.bits))) 1 = 1) = False := eq_false (of_decide_eq_false hbi.symm)
      refine ⟨?_⟩
      simp (config := { maxSteps := 4000000 }) only [↓sx0, ↓sx1, ↓sx2, ↓sx3, ↓sx4, ↓sx5, ↓sx6, sx0, sx1, sx2, sx3, sx4, sx5, sx6, tf12, ev3_hold, sxo, sxc, sxp, sxq, sxr, sxs, sxl, sxm, Int.reduceBEq, Int.reduceBNe, Int.reduceLT, Int.reduceLE, Int.reduceEq, Int.reduceGT, Int.reduceGE, Int.reduceToNat, ↓reduceIte, List.reduceReplicate, Nat.reduceAdd, Nat.reduceSub, Nat.reduceMul, Nat.reduceLT, Nat.reduceLeDiff, Nat.reduceBEq, Nat.reduceEqDiff, e8, e9, e3]
      refine ⟨by omega, (i + 1, (kb, kd), oa, oc), _, by simp only [hOS, and_self], HImp.refl _ _, ⟨by simp only []; omega, hkn2, by simp only [hOS]; exact hon, by simp only [hOS]⟩, by simp only []; omega⟩
    | true =>
      rw [hpi, if_pos rfl] at hOS
      rw [hpi] at hbi
      have e3 : (bitS .and .i64 (set.fdiv (2 ^ (min i IntKind.i64.bits))) 1 = 1) = True := eq_true (of_decide_eq_true hbi.symm)
      have hOl : (OL (i + 1)).length = (OL i).length + 1 := by rw [hOS, List.length_append, List.length_singleton]
      refine ⟨?_⟩
      simp (config := { maxSteps := 4000000 }) only [↓sx0, ↓sx1, ↓sx2, ↓sx3, ↓sx4, ↓sx5, ↓sx6, sx0, sx1, sx2, sx3, sx4, sx5, sx6, tf12, ev3_hold, sxo, sxc, sxp, sxq, sxr, sxs, sxl, sxm, Int.reduceBEq, Int.reduceBNe, Int.reduceLT, Int.reduceLE, Int.reduceEq, Int.reduceGT, Int.reduceGE, Int.reduceToNat, ↓reduceIte, List.reduceReplicate, Nat.reduceAdd, Nat.reduceSub, Nat.reduceMul, Nat.reduceLT, Nat.reduceLeDiff, Nat.reduceBEq, Nat.reduceEqDiff, e9, e3]
      refine ⟨by omega, ?_⟩
      refine at_n (hr _) ldc_len (by omega) hu fun ad => ?_
      simp (config := { maxSteps := 4000000 }) only [↓sx0, ↓sx1, ↓sx2, ↓sx3, ↓sx4, ↓sx5, ↓sx6, sx0, sx1, sx2, sx3, sx4, sx5, sx6, tf12, ev3_hold, sxo, sxc, sxp, sxq, sxr, sxs, sxl, sxm, Int.reduceBEq, Int.reduceBNe, Int.reduceLT, Int.reduceLE, Int.reduceEq, Int.reduceGT, Int.reduceGE, Int.reduceToNat, ↓reduceIte, List.reduceReplicate, Nat.reduceAdd, Nat.reduceSub, Nat.reduceMul, Nat.reduceLT, Nat.reduceLeDiff, Nat.reduceBEq, Nat.reduceEqDiff, ldc_mk]
      intro b5
      refine app_one (f := ldc) (l := OL i) (x1, x2, x3) (HImp.swap _ _ _ _) ldc_len ldc_one (by omega) fun ad4 c4 => ?_
      rw [← hOS, ← hOl]
      simp (config := { maxSteps := 4000000 }) only [↓sx0, ↓sx1, ↓sx2, ↓sx3, ↓sx4, ↓sx5, ↓sx6, sx0, sx1, sx2, sx3, sx4, sx5, sx6, tf12, ev3_hold, sxo, sxc, sxp, sxq, sxr, sxs, sxl, sxm, Int.reduceBEq, Int.reduceBNe, Int.reduceLT, Int.reduceLE, Int.reduceEq, Int.reduceGT, Int.reduceGE, Int.reduceToNat, ↓reduceIte, List.reduceReplicate, Nat.reduceAdd, Nat.reduceSub, Nat.reduceMul, Nat.reduceLT, Nat.reduceLeDiff, Nat.reduceBEq, Nat.reduceEqDiff, e8]
      refine ⟨(i + 1, (kb, kd), some ad4, c4), _, ⟨rfl, rfl, rfl, rfl⟩, HImp.swap _ _ _ _, ⟨by simp only []; omega, hkn2, fun h => (by cases h), rfl⟩, by simp only []; omega⟩
  subst hin
  have e7 : ((l.length : Int) < (l.length : Int)) = False := eq_false (by omega)
  have e12 : ((NN l.length : Int) = (X.length : Int)) = True := eq_true (by omega)
  refine ⟨?_⟩
  simp (config := { maxSteps := 4000000 }) only [↓sx0, ↓sx1, ↓sx2, ↓sx3, ↓sx4, ↓sx5, ↓sx6, sx0, sx1, sx2, sx3, sx4, sx5, sx6, tf12, ev3_hold, sxo, sxc, sxp, sxq, sxr, sxs, sxl, sxm, Int.reduceBEq, Int.reduceBNe, Int.reduceLT, Int.reduceLE, Int.reduceEq, Int.reduceGT, Int.reduceGE, Int.reduceToNat, ↓reduceIte, List.reduceReplicate, Nat.reduceAdd, Nat.reduceSub, Nat.reduceMul, Nat.reduceLT, Nat.reduceLeDiff, Nat.reduceBEq, Nat.reduceEqDiff, e7, dn]
  refine CallOb.pureH (fun w' hp => hr2 w' _ (row_hp List.mem_cons_self hp)) ?_
  rintro r2 N4 rfl
  refine ⟨?_⟩
  simp (config := { maxSteps := 4000000 }) only [↓sx0, ↓sx1, ↓sx2, ↓sx3, ↓sx4, ↓sx5, ↓sx6, sx0, sx1, sx2, sx3, sx4, sx5, sx6, tf12, ev3_hold, sxo, sxc, sxp, sxq, sxr, sxs, sxl, sxm, Int.reduceBEq, Int.reduceBNe, Int.reduceLT, Int.reduceLE, Int.reduceEq, Int.reduceGT, Int.reduceGE, Int.reduceToNat, ↓reduceIte, List.reduceReplicate, Nat.reduceAdd, Nat.reduceSub, Nat.reduceMul, Nat.reduceLT, Nat.reduceLeDiff, Nat.reduceBEq, Nat.reduceEqDiff, dn]
  refine CallOb.pureH (fun w' hp => hr3 w' _ (row_hp (List.mem_append_right _ (List.mem_cons_of_mem _ List.mem_cons_self)) hp)) ?_
  rintro r3 N5 rfl
  refine ⟨?_⟩
  simp (config := { maxSteps := 4000000 }) only [↓sx0, ↓sx1, ↓sx2, ↓sx3, ↓sx4, ↓sx5, ↓sx6, sx0, sx1, sx2, sx3, sx4, sx5, sx6, tf12, ev3_hold, sxo, sxc, sxp, sxq, sxr, sxs, sxl, sxm, Int.reduceBEq, Int.reduceBNe, Int.reduceLT, Int.reduceLE, Int.reduceEq, Int.reduceGT, Int.reduceGE, Int.reduceToNat, ↓reduceIte, List.reduceReplicate, Nat.reduceAdd, Nat.reduceSub, Nat.reduceMul, Nat.reduceLT, Nat.reduceLeDiff, Nat.reduceBEq, Nat.reduceEqDiff]
  refine cut_constH [(125, 150)] (fun _ : Unit => []) (fun _ H2 => H2 = []) ?_ ?_
  · cases SO with
    | false =>
      refine ⟨?_⟩
      simp (config := { maxSteps := 4000000 }) only [↓sx0, ↓sx1, ↓sx2, ↓sx3, ↓sx4, ↓sx5, ↓sx6, sx0, sx1, sx2, sx3, sx4, sx5, sx6, tf12, ev3_hold, sxo, sxc, sxp, sxq, sxr, sxs, sxl, sxm, Int.reduceBEq, Int.reduceBNe, Int.reduceLT, Int.reduceLE, Int.reduceEq, Int.reduceGT, Int.reduceGE, Int.reduceToNat, ↓reduceIte, List.reduceReplicate, Nat.reduceAdd, Nat.reduceSub, Nat.reduceMul, Nat.reduceLT, Nat.reduceLeDiff, Nat.reduceBEq, Nat.reduceEqDiff, e12]
      exact ⟨(), _, HImp.nil _ _, rfl⟩
    | true =>
      have e13 := e6 rfl
      refine ⟨?_⟩
      simp (config := { maxSteps := 4000000 }) only [↓sx0, ↓sx1, ↓sx2, ↓sx3, ↓sx4, ↓sx5, ↓sx6, sx0, sx1, sx2, sx3, sx4, sx5, sx6, tf12, ev3_hold, sxo, sxc, sxp, sxq, sxr, sxs, sxl, sxm, Int.reduceBEq, Int.reduceBNe, Int.reduceLT, Int.reduceLE, Int.reduceEq, Int.reduceGT, Int.reduceGE, Int.reduceToNat, ↓reduceIte, List.reduceReplicate, Nat.reduceAdd, Nat.reduceSub, Nat.reduceMul, Nat.reduceLT, Nat.reduceLeDiff, Nat.reduceBEq, Nat.reduceEqDiff, e12, e13]
      exact ⟨(), _, HImp.nil _ _, rfl⟩
  rintro _ H2 g4 hH2
  subst hH2
  by_cases hwl : ws.length = l.length
  case neg =>
    have e14 : ((ws.length : Int) = (l.length : Int)) = False := eq_false (by omega)
    refine ⟨?_⟩
    simp (config := { maxSteps := 4000000 }) only [↓sx0, ↓sx1, ↓sx2, ↓sx3, ↓sx4, ↓sx5, ↓sx6, sx0, sx1, sx2, sx3, sx4, sx5, sx6, tf12, ev3_hold, sxo, sxc, sxp, sxq, sxr, sxs, sxl, sxm, Int.reduceBEq, Int.reduceBNe, Int.reduceLT, Int.reduceLE, Int.reduceEq, Int.reduceGT, Int.reduceGE, Int.reduceToNat, ↓reduceIte, List.reduceReplicate, Nat.reduceAdd, Nat.reduceSub, Nat.reduceMul, Nat.reduceLT, Nat.reduceLeDiff, Nat.reduceBEq, Nat.reduceEqDiff, e14, dn]
    refine CallOb.pureH (fun w' hp => hwk _ w' hp) ?_
    rintro rW NW rfl
    refine ⟨?_⟩
    simp (config := { maxSteps := 4000000 }) only [↓sx0, ↓sx1, ↓sx2, ↓sx3, ↓sx4, ↓sx5, ↓sx6, sx0, sx1, sx2, sx3, sx4, sx5, sx6, tf12, ev3_hold, sxo, sxc, sxp, sxq, sxr, sxs, sxl, sxm, Int.reduceBEq, Int.reduceBNe, Int.reduceLT, Int.reduceLE, Int.reduceEq, Int.reduceGT, Int.reduceGE, Int.reduceToNat, ↓reduceIte, List.reduceReplicate, Nat.reduceAdd, Nat.reduceSub, Nat.reduceMul, Nat.reduceLT, Nat.reduceLeDiff, Nat.reduceBEq, Nat.reduceEqDiff]
  have e14 : ((ws.length : Int) = (l.length : Int)) = True := eq_true (by omega)
  refine ⟨?_⟩
  simp (config := { maxSteps := 4000000 }) only [↓sx0, ↓sx1, ↓sx2, ↓sx3, ↓sx4, ↓sx5, ↓sx6, sx0, sx1, sx2, sx3, sx4, sx5, sx6, tf12, ev3_hold, sxo, sxc, sxp, sxq, sxr, sxs, sxl, sxm, Int.reduceBEq, Int.reduceBNe, Int.reduceLT, Int.reduceLE, Int.reduceEq, Int.reduceGT, Int.reduceGE, Int.reduceToNat, ↓reduceIte, List.reduceReplicate, Nat.reduceAdd, Nat.reduceSub, Nat.reduceMul, Nat.reduceLT, Nat.reduceLeDiff, Nat.reduceBEq, Nat.reduceEqDiff, e14]
  refine loop_constH [] (HImp.refl _ _) [(8, 8), (24, 25), (157, 199)] (fun q : Nat × Int => [(24, I q.2), (25, I q.1)]) (fun q H1 => q.1 ≤ l.length ∧ (LO q.1 ≤ q.2 ∧ q.2 ≤ HI q.1) ∧ H1 = []) (fun q => l.length - q.1) (0, 0) ?_ ⟨Nat.zero_le _, ⟨by rw [hL0]; exact Int.le_refl _, by rw [hH0]; exact Int.le_refl _⟩, rfl⟩ ?_
  · simp (config := { maxSteps := 4000000 }) only [↓sx0, ↓sx1, ↓sx2, ↓sx3, ↓sx4, ↓sx5, ↓sx6, sx0, sx1, sx2, sx3, sx4, sx5, sx6, tf12, ev3_hold, sxo, sxc, sxp, sxq, sxr, sxs, sxl, sxm, Int.reduceBEq, Int.reduceBNe, Int.reduceLT, Int.reduceLE, Int.reduceEq, Int.reduceGT, Int.reduceGE, Int.reduceToNat, ↓reduceIte, List.reduceReplicate, Nat.reduceAdd, Nat.reduceSub, Nat.reduceMul, Nat.reduceLT, Nat.reduceLeDiff, Nat.reduceBEq, Nat.reduceEqDiff]
    try simp
  rintro ⟨i, s⟩ H1 g5 ⟨hi, hsb, hH1⟩
  simp only [] at hi hsb hH1
  subst hH1
  by_cases hin : i = l.length
  case neg =>
    have k7 : ((i : Int) < (l.length : Int)) = True := eq_true (by omega)
    have k8 : wr (i + 1) = ((i + 1 : Nat) : Int) := (wrap_id (by omega)).trans (by omega)
    have hil : i < l.length := by omega
    have hu := List.getElem?_eq_getElem hil
    have hu2 : ws[i]? = some ws[i] := List.getElem?_eq_getElem (by omega)
    obtain ⟨x, hx⟩ : ∃ x, l[i] = x := ⟨_, rfl⟩
    obtain ⟨y, hy⟩ : ∃ y, ws[i] = y := ⟨_, rfl⟩
    rw [hx] at hu
    rw [hy] at hu2
    have hgx := hg x (by rw [← hx]; exact List.getElem_mem hil)
    by_cases c1 : y < x.1
    · have k1 : (y < x.1) = True := eq_true c1
      refine ⟨?_⟩
      simp (config := { maxSteps := 4000000 }) only [↓sx0, ↓sx1, ↓sx2, ↓sx3, ↓sx4, ↓sx5, ↓sx6, sx0, sx1, sx2, sx3, sx4, sx5, sx6, tf12, ev3_hold, sxo, sxc, sxp, sxq, sxr, sxs, sxl, sxm, Int.reduceBEq, Int.reduceBNe, Int.reduceLT, Int.reduceLE, Int.reduceEq, Int.reduceGT, Int.reduceGE, Int.reduceToNat, ↓reduceIte, List.reduceReplicate, Nat.reduceAdd, Nat.reduceSub, Nat.reduceMul, Nat.reduceLT, Nat.reduceLeDiff, Nat.reduceBEq, Nat.reduceEqDiff, k7]
      refine at_1 (hrw _) i1_len hu2 rfl fun ad => ?_
      simp (config := { maxSteps := 4000000 }) only [↓sx0, ↓sx1, ↓sx2, ↓sx3, ↓sx4, ↓sx5, ↓sx6, sx0, sx1, sx2, sx3, sx4, sx5, sx6, tf12, ev3_hold, sxo, sxc, sxp, sxq, sxr, sxs, sxl, sxm, Int.reduceBEq, Int.reduceBNe, Int.reduceLT, Int.reduceLE, Int.reduceEq, Int.reduceGT, Int.reduceGE, Int.reduceToNat, ↓reduceIte, List.reduceReplicate, Nat.reduceAdd, Nat.reduceSub, Nat.reduceMul, Nat.reduceLT, Nat.reduceLeDiff, Nat.reduceBEq, Nat.reduceEqDiff]
      refine at_f2 (hr _) ldc_len hu (o1 := 0) (o2 := 0) (x := I x.1) rfl fun ad2 => ?_
      simp (config := { maxSteps := 4000000 }) only [↓sx0, ↓sx1, ↓sx2, ↓sx3, ↓sx4, ↓sx5, ↓sx6, sx0, sx1, sx2, sx3, sx4, sx5, sx6, tf12, ev3_hold, sxo, sxc, sxp, sxq, sxr, sxs, sxl, sxm, Int.reduceBEq, Int.reduceBNe, Int.reduceLT, Int.reduceLE, Int.reduceEq, Int.reduceGT, Int.reduceGE, Int.reduceToNat, ↓reduceIte, List.reduceReplicate, Nat.reduceAdd, Nat.reduceSub, Nat.reduceMul, Nat.reduceLT, Nat.reduceLeDiff, Nat.reduceBEq, Nat.reduceEqDiff, k1, dn]
      refine CallOb.pureH (fun w' hp => hwk _ w' hp) ?_
      rintro rW NW rfl
      refine ⟨?_⟩
      simp (config := { maxSteps := 4000000 }) only [↓sx0, ↓sx1, ↓sx2, ↓sx3, ↓sx4, ↓sx5, ↓sx6, sx0, sx1, sx2, sx3, sx4, sx5, sx6, tf12, ev3_hold, sxo, sxc, sxp, sxq, sxr, sxs, sxl, sxm, Int.reduceBEq, Int.reduceBNe, Int.reduceLT, Int.reduceLE, Int.reduceEq, Int.reduceGT, Int.reduceGE, Int.reduceToNat, ↓reduceIte, List.reduceReplicate, Nat.reduceAdd, Nat.reduceSub, Nat.reduceMul, Nat.reduceLT, Nat.reduceLeDiff, Nat.reduceBEq, Nat.reduceEqDiff]
    have k1 : (y < x.1) = False := eq_false c1
    by_cases c2 : y > x.2.1
    · have k2 : (y > x.2.1) = True := eq_true c2
      refine ⟨?_⟩
      simp (config := { maxSteps := 4000000 }) only [↓sx0, ↓sx1, ↓sx2, ↓sx3, ↓sx4, ↓sx5, ↓sx6, sx0, sx1, sx2, sx3, sx4, sx5, sx6, tf12, ev3_hold, sxo, sxc, sxp, sxq, sxr, sxs, sxl, sxm, Int.reduceBEq, Int.reduceBNe, Int.reduceLT, Int.reduceLE, Int.reduceEq, Int.reduceGT, Int.reduceGE, Int.reduceToNat, ↓reduceIte, List.reduceReplicate, Nat.reduceAdd, Nat.reduceSub, Nat.reduceMul, Nat.reduceLT, Nat.reduceLeDiff, Nat.reduceBEq, Nat.reduceEqDiff, k7]
      refine at_1 (hrw _) i1_len hu2 rfl fun ad => ?_
      simp (config := { maxSteps := 4000000 }) only [↓sx0, ↓sx1, ↓sx2, ↓sx3, ↓sx4, ↓sx5, ↓sx6, sx0, sx1, sx2, sx3, sx4, sx5, sx6, tf12, ev3_hold, sxo, sxc, sxp, sxq, sxr, sxs, sxl, sxm, Int.reduceBEq, Int.reduceBNe, Int.reduceLT, Int.reduceLE, Int.reduceEq, Int.reduceGT, Int.reduceGE, Int.reduceToNat, ↓reduceIte, List.reduceReplicate, Nat.reduceAdd, Nat.reduceSub, Nat.reduceMul, Nat.reduceLT, Nat.reduceLeDiff, Nat.reduceBEq, Nat.reduceEqDiff]
      refine at_f2 (hr _) ldc_len hu (o1 := 0) (o2 := 0) (x := I x.1) rfl fun ad2 => ?_
      simp (config := { maxSteps := 4000000 }) only [↓sx0, ↓sx1, ↓sx2, ↓sx3, ↓sx4, ↓sx5, ↓sx6, sx0, sx1, sx2, sx3, sx4, sx5, sx6, tf12, ev3_hold, sxo, sxc, sxp, sxq, sxr, sxs, sxl, sxm, Int.reduceBEq, Int.reduceBNe, Int.reduceLT, Int.reduceLE, Int.reduceEq, Int.reduceGT, Int.reduceGE, Int.reduceToNat, ↓reduceIte, List.reduceReplicate, Nat.reduceAdd, Nat.reduceSub, Nat.reduceMul, Nat.reduceLT, Nat.reduceLeDiff, Nat.reduceBEq, Nat.reduceEqDiff, k1]
      refine at_1 (hrw _) i1_len hu2 rfl fun ad => ?_
      simp (config := { maxSteps := 4000000 }) only [↓sx0, ↓sx1, ↓sx2, ↓sx3, ↓sx4, ↓sx5, ↓sx6, sx0, sx1, sx2, sx3, sx4, sx5, sx6, tf12, ev3_hold, sxo, sxc, sxp, sxq, sxr, sxs, sxl, sxm, Int.reduceBEq, Int.reduceBNe, Int.reduceLT, Int.reduceLE, Int.reduceEq, Int.reduceGT, Int.reduceGE, Int.reduceToNat, ↓reduceIte, List.reduceReplicate, Nat.reduceAdd, Nat.reduceSub, Nat.reduceMul, Nat.reduceLT, Nat.reduceLeDiff, Nat.reduceBEq, Nat.reduceEqDiff]
      refine at_f2 (hr _) ldc_len hu (o1 := 0) (o2 := 1) (x := I x.2.1) rfl fun ad2 => ?_
      simp (config := { maxSteps := 4000000 }) only [↓sx0, ↓sx1, ↓sx2, ↓sx3, ↓sx4, ↓sx5, ↓sx6, sx0, sx1, sx2, sx3, sx4, sx5, sx6, tf12, ev3_hold, sxo, sxc, sxp, sxq, sxr, sxs, sxl, sxm, Int.reduceBEq, Int.reduceBNe, Int.reduceLT, Int.reduceLE, Int.reduceEq, Int.reduceGT, Int.reduceGE, Int.reduceToNat, ↓reduceIte, List.reduceReplicate, Nat.reduceAdd, Nat.reduceSub, Nat.reduceMul, Nat.reduceLT, Nat.reduceLeDiff, Nat.reduceBEq, Nat.reduceEqDiff, k2, dn]
      refine CallOb.pureH (fun w' hp => hwk _ w' hp) ?_
      rintro rW NW rfl
      refine ⟨?_⟩
      simp (config := { maxSteps := 4000000 }) only [↓sx0, ↓sx1, ↓sx2, ↓sx3, ↓sx4, ↓sx5, ↓sx6, sx0, sx1, sx2, sx3, sx4, sx5, sx6, tf12, ev3_hold, sxo, sxc, sxp, sxq, sxr, sxs, sxl, sxm, Int.reduceBEq, Int.reduceBNe, Int.reduceLT, Int.reduceLE, Int.reduceEq, Int.reduceGT, Int.reduceGE, Int.reduceToNat, ↓reduceIte, List.reduceReplicate, Nat.reduceAdd, Nat.reduceSub, Nat.reduceMul, Nat.reduceLT, Nat.reduceLeDiff, Nat.reduceBEq, Nat.reduceEqDiff]
    have k2 : (y > x.2.1) = False := eq_false c2
    have hgi := (badL_iff x).1 hgx
    have hgm := goodM hgx
    have m1 : lowM x ≤ y * x.2.2 := Int.mul_le_mul_of_nonneg_right (by omega) hgi.2.2.2.1
    have m2 : y * x.2.2 ≤ highM x := Int.mul_le_mul_of_nonneg_right (by omega) hgi.2.2.2.1
    have hL1 := hLs i x hu
    have hH1 := hHs i x hu
    have hL2 := hLb i
    have hH2 := hHb i
    have w1 : wr (y * x.2.2) = y * x.2.2 := wrap_id (by omega)
    have w2 : wr (s + y * x.2.2) = s + y * x.2.2 := wrap_id (by omega)
    refine ⟨?_⟩
    simp (config := { maxSteps := 4000000 }) only [↓sx0, ↓sx1, ↓sx2, ↓sx3, ↓sx4, ↓sx5, ↓sx6, sx0, sx1, sx2, sx3, sx4, sx5, sx6, tf12, ev3_hold, sxo, sxc, sxp, sxq, sxr, sxs, sxl, sxm, Int.reduceBEq, Int.reduceBNe, Int.reduceLT, Int.reduceLE, Int.reduceEq, Int.reduceGT, Int.reduceGE, Int.reduceToNat, ↓reduceIte, List.reduceReplicate, Nat.reduceAdd, Nat.reduceSub, Nat.reduceMul, Nat.reduceLT, Nat.reduceLeDiff, Nat.reduceBEq, Nat.reduceEqDiff, k7]
    refine at_1 (hrw _) i1_len hu2 rfl fun ad => ?_
    simp (config := { maxSteps := 4000000 }) only [↓sx0, ↓sx1, ↓sx2, ↓sx3, ↓sx4, ↓sx5, ↓sx6, sx0, sx1, sx2, sx3, sx4, sx5, sx6, tf12, ev3_hold, sxo, sxc, sxp, sxq, sxr, sxs, sxl, sxm, Int.reduceBEq, Int.reduceBNe, Int.reduceLT, Int.reduceLE, Int.reduceEq, Int.reduceGT, Int.reduceGE, Int.reduceToNat, ↓reduceIte, List.reduceReplicate, Nat.reduceAdd, Nat.reduceSub, Nat.reduceMul, Nat.reduceLT, Nat.reduceLeDiff, Nat.reduceBEq, Nat.reduceEqDiff]
    refine at_f2 (hr _) ldc_len hu (o1 := 0) (o2 := 0) (x := I x.1) rfl fun ad2 => ?_
    simp (config := { maxSteps := 4000000 }) only [↓sx0, ↓sx1, ↓sx2, ↓sx3, ↓sx4, ↓sx5, ↓sx6, sx0, sx1, sx2, sx3, sx4, sx5, sx6, tf12, ev3_hold, sxo, sxc, sxp, sxq, sxr, sxs, sxl, sxm, Int.reduceBEq, Int.reduceBNe, Int.reduceLT, Int.reduceLE, Int.reduceEq, Int.reduceGT, Int.reduceGE, Int.reduceToNat, ↓reduceIte, List.reduceReplicate, Nat.reduceAdd, Nat.reduceSub, Nat.reduceMul, Nat.reduceLT, Nat.reduceLeDiff, Nat.reduceBEq, Nat.reduceEqDiff, k1]
    refine at_1 (hrw _) i1_len hu2 rfl fun ad => ?_
    simp (config := { maxSteps := 4000000 }) only [↓sx0, ↓sx1, ↓sx2, ↓sx3, ↓sx4, ↓sx5, ↓sx6, sx0, sx1, sx2, sx3, sx4, sx5, sx6, tf12, ev3_hold, sxo, sxc, sxp, sxq, sxr, sxs, sxl, sxm, Int.reduceBEq, Int.reduceBNe, Int.reduceLT, Int.reduceLE, Int.reduceEq, Int.reduceGT, Int.reduceGE, Int.reduceToNat, ↓reduceIte, List.reduceReplicate, Nat.reduceAdd, Nat.reduceSub, Nat.reduceMul, Nat.reduceLT, Nat.reduceLeDiff, Nat.reduceBEq, Nat.reduceEqDiff]
    refine at_f2 (hr _) ldc_len hu (o1 := 0) (o2 := 1) (x := I x.2.1) rfl fun ad2 => ?_
    simp (config := { maxSteps := 4000000 }) only [↓sx0, ↓sx1, ↓sx2, ↓sx3, ↓sx4, ↓sx5, ↓sx6, sx0, sx1, sx2, sx3, sx4, sx5, sx6, tf12, ev3_hold, sxo, sxc, sxp, sxq, sxr, sxs, sxl, sxm, Int.reduceBEq, Int.reduceBNe, Int.reduceLT, Int.reduceLE, Int.reduceEq, Int.reduceGT, Int.reduceGE, Int.reduceToNat, ↓reduceIte, List.reduceReplicate, Nat.reduceAdd, Nat.reduceSub, Nat.reduceMul, Nat.reduceLT, Nat.reduceLeDiff, Nat.reduceBEq, Nat.reduceEqDiff, k2]
    refine at_1 (hrw _) i1_len hu2 rfl fun ad => ?_
    simp (config := { maxSteps := 4000000 }) only [↓sx0, ↓sx1, ↓sx2, ↓sx3, ↓sx4, ↓sx5, ↓sx6, sx0, sx1, sx2, sx3, sx4, sx5, sx6, tf12, ev3_hold, sxo, sxc, sxp, sxq, sxr, sxs, sxl, sxm, Int.reduceBEq, Int.reduceBNe, Int.reduceLT, Int.reduceLE, Int.reduceEq, Int.reduceGT, Int.reduceGE, Int.reduceToNat, ↓reduceIte, List.reduceReplicate, Nat.reduceAdd, Nat.reduceSub, Nat.reduceMul, Nat.reduceLT, Nat.reduceLeDiff, Nat.reduceBEq, Nat.reduceEqDiff]
    refine at_f (hr _) ldc_len hu (o := 2) (x := I x.2.2) rfl fun ad2 => ?_
    simp (config := { maxSteps := 4000000 }) only [↓sx0, ↓sx1, ↓sx2, ↓sx3, ↓sx4, ↓sx5, ↓sx6, sx0, sx1, sx2, sx3, sx4, sx5, sx6, tf12, ev3_hold, sxo, sxc, sxp, sxq, sxr, sxs, sxl, sxm, Int.reduceBEq, Int.reduceBNe, Int.reduceLT, Int.reduceLE, Int.reduceEq, Int.reduceGT, Int.reduceGE, Int.reduceToNat, ↓reduceIte, List.reduceReplicate, Nat.reduceAdd, Nat.reduceSub, Nat.reduceMul, Nat.reduceLT, Nat.reduceLeDiff, Nat.reduceBEq, Nat.reduceEqDiff, w1, w2, k8]
    exact ⟨(i + 1, s + y * x.2.2), _, ⟨rfl, rfl⟩, HImp.refl _ _, ⟨by simp only []; omega, by simp only []; omega, rfl⟩, by simp only []; omega⟩
  subst hin
  have hq1 := hend1 s hsb.2
  have hq2 := hend2 s hsb.1
  have k7 : ((l.length : Int) < (l.length : Int)) = False := eq_false (by omega)
  by_cases hsm : s ≤ b.moment
  · have k1 : (s ≤ b.moment) = True := eq_true hsm
    rcases hcase with ⟨rfl, rfl⟩ | ⟨rfl, rfl⟩ | ⟨rfl, rfl⟩
    · refine ⟨?_⟩
      simp (config := { maxSteps := 4000000 }) only [↓sx0, ↓sx1, ↓sx2, ↓sx3, ↓sx4, ↓sx5, ↓sx6, sx0, sx1, sx2, sx3, sx4, sx5, sx6, tf12, ev3_hold, sxo, sxc, sxp, sxq, sxr, sxs, sxl, sxm, Int.reduceBEq, Int.reduceBNe, Int.reduceLT, Int.reduceLE, Int.reduceEq, Int.reduceGT, Int.reduceGE, Int.reduceToNat, ↓reduceIte, List.reduceReplicate, Nat.reduceAdd, Nat.reduceSub, Nat.reduceMul, Nat.reduceLT, Nat.reduceLeDiff, Nat.reduceBEq, Nat.reduceEqDiff, k7, k1, dn]
      refine CallOb.pureH (fun w' hp => hwk _ w' hp) ?_
      rintro rW NW rfl
      refine ⟨?_⟩
      simp (config := { maxSteps := 4000000 }) only [↓sx0, ↓sx1, ↓sx2, ↓sx3, ↓sx4, ↓sx5, ↓sx6, sx0, sx1, sx2, sx3, sx4, sx5, sx6, tf12, ev3_hold, sxo, sxc, sxp, sxq, sxr, sxs, sxl, sxm, Int.reduceBEq, Int.reduceBNe, Int.reduceLT, Int.reduceLE, Int.reduceEq, Int.reduceGT, Int.reduceGE, Int.reduceToNat, ↓reduceIte, List.reduceReplicate, Nat.reduceAdd, Nat.reduceSub, Nat.reduceMul, Nat.reduceLT, Nat.reduceLeDiff, Nat.reduceBEq, Nat.reduceEqDiff]
    · refine ⟨?_⟩
      simp (config := { maxSteps := 4000000 }) only [↓sx0, ↓sx1, ↓sx2, ↓sx3, ↓sx4, ↓sx5, ↓sx6, sx0, sx1, sx2, sx3, sx4, sx5, sx6, tf12, ev3_hold, sxo, sxc, sxp, sxq, sxr, sxs, sxl, sxm, Int.reduceBEq, Int.reduceBNe, Int.reduceLT, Int.reduceLE, Int.reduceEq, Int.reduceGT, Int.reduceGE, Int.reduceToNat, ↓reduceIte, List.reduceReplicate, Nat.reduceAdd, Nat.reduceSub, Nat.reduceMul, Nat.reduceLT, Nat.reduceLeDiff, Nat.reduceBEq, Nat.reduceEqDiff, k7, k1, dn]
      refine CallOb.pureH (fun w' hp => hwk _ w' hp) ?_
      rintro rW NW rfl
      refine ⟨?_⟩
      simp (config := { maxSteps := 4000000 }) only [↓sx0, ↓sx1, ↓sx2, ↓sx3, ↓sx4, ↓sx5, ↓sx6, sx0, sx1, sx2, sx3, sx4, sx5, sx6, tf12, ev3_hold, sxo, sxc, sxp, sxq, sxr, sxs, sxl, sxm, Int.reduceBEq, Int.reduceBNe, Int.reduceLT, Int.reduceLE, Int.reduceEq, Int.reduceGT, Int.reduceGE, Int.reduceToNat, ↓reduceIte, List.reduceReplicate, Nat.reduceAdd, Nat.reduceSub, Nat.reduceMul, Nat.reduceLT, Nat.reduceLeDiff, Nat.reduceBEq, Nat.reduceEqDiff]
    · exact absurd hsm (hq2 rfl)
  · have k1 : (s > b.moment) = True := eq_true (by omega)
    rcases hcase with ⟨rfl, rfl⟩ | ⟨rfl, rfl⟩ | ⟨rfl, rfl⟩
    · exact absurd (hq1 rfl) hsm
    · refine ⟨?_⟩
      simp (config := { maxSteps := 4000000 }) only [↓sx0, ↓sx1, ↓sx2, ↓sx3, ↓sx4, ↓sx5, ↓sx6, sx0, sx1, sx2, sx3, sx4, sx5, sx6, tf12, ev3_hold, sxo, sxc, sxp, sxq, sxr, sxs, sxl, sxm, Int.reduceBEq, Int.reduceBNe, Int.reduceLT, Int.reduceLE, Int.reduceEq, Int.reduceGT, Int.reduceGE, Int.reduceToNat, ↓reduceIte, List.reduceReplicate, Nat.reduceAdd, Nat.reduceSub, Nat.reduceMul, Nat.reduceLT, Nat.reduceLeDiff, Nat.reduceBEq, Nat.reduceEqDiff, k7, k1, dn]
      refine CallOb.pureH (fun w' hp => hwk _ w' hp) ?_
      rintro rW NW rfl
      refine ⟨?_⟩
      simp (config := { maxSteps := 4000000 }) only [↓sx0, ↓sx1, ↓sx2, ↓sx3, ↓sx4, ↓sx5, ↓sx6, sx0, sx1, sx2, sx3, sx4, sx5, sx6, tf12, ev3_hold, sxo, sxc, sxp, sxq, sxr, sxs, sxl, sxm, Int.reduceBEq, Int.reduceBNe, Int.reduceLT, Int.reduceLE, Int.reduceEq, Int.reduceGT, Int.reduceGE, Int.reduceToNat, ↓reduceIte, List.reduceReplicate, Nat.reduceAdd, Nat.reduceSub, Nat.reduceMul, Nat.reduceLT, Nat.reduceLeDiff, Nat.reduceBEq, Nat.reduceEqDiff]
    · refine ⟨?_⟩
      simp (config := { maxSteps := 4000000 }) only [↓sx0, ↓sx1, ↓sx2, ↓sx3, ↓sx4, ↓sx5, ↓sx6, sx0, sx1, sx2, sx3, sx4, sx5, sx6, tf12, ev3_hold, sxo, sxc, sxp, sxq, sxr, sxs, sxl, sxm, Int.reduceBEq, Int.reduceBNe, Int.reduceLT, Int.reduceLE, Int.reduceEq, Int.reduceGT, Int.reduceGE, Int.reduceToNat, ↓reduceIte, List.reduceReplicate, Nat.reduceAdd, Nat.reduceSub, Nat.reduceMul, Nat.reduceLT, Nat.reduceLeDiff, Nat.reduceBEq, Nat.reduceEqDiff, k7, k1, dn]
      refine CallOb.pureH (fun w' hp => hwk _ w' hp) ?_
      rintro rW NW rfl
      refine ⟨?_⟩
      simp (config := { maxSteps := 4000000 }) only [↓sx0, ↓sx1, ↓sx2, ↓sx3, ↓sx4, ↓sx5, ↓sx6, sx0, sx1, sx2, sx3, sx4, sx5, sx6, tf12, ev3_hold, sxo, sxc, sxp, sxq, sxr, sxs, sxl, sxm, Int.reduceBEq, Int.reduceBNe, Int.reduceLT, Int.reduceLE, Int.reduceEq, Int.reduceGT, Int.reduceGE, Int.reduceToNat, ↓reduceIte, List.reduceReplicate, Nat.reduceAdd, Nat.reduceSub, Nat.reduceMul, Nat.reduceLT, Nat.reduceLeDiff, Nat.reduceBEq, Nat.reduceEqDiff]
end Go.Proofs.YtcnlbnccbnapbaaDoor
