/- Parts of a proof: the symbolic walk and what it shows of single functions. -/
import Derived.Test.YtcnlbnccbnapbaaDoorP1
set_option linter.all false
namespace Go.Proofs.YtcnlbnccbnapbaaDoor
open Go.RowKit Go.SX
set_option maxRecDepth 10000
set_option maxHeartbeats 0
set_option linter.unusedSimpArgs false
set_option linter.unusedVariables false
def OpenP (v : Value) (c : Cht) (b : Cls) (r : Rmp) (t f : Int) (q : Value) (N : List HO) : Prop := (staE c b r t f ≠ 0 ∧ q = .tuple #[.pointer none, I (staE c b r t f)]) ∨ (staE c b r t f = 0 ∧ ∃ bs, q = .tuple #[.pointer (some ⟨bs, 0, none⟩), I 0] ∧ StaN N v bs c b r.cell (rdyL c b r) (canL c b) (nearL c))
def isF (X : List Bool) (n : Nat) (p : Nat → Bool) : Prop := X.length = n ∧ ∀ u, u < n → X.getD u false = p u
theorem isF.eq {X : List Bool} {n : Nat} {p : Nat → Bool} (h : isF X n p) : X = (List.range n).map p := by
  refine List.ext_getElem? fun i => ?_
  rw [List.getElem?_map]
  by_cases hi : i < n
  · rw [List.getElem?_range hi]
    have := h.2 i hi
    rw [List.getD_eq_getElem?_getD, List.getElem?_eq_getElem (by rw [h.1]; exact hi)] at this
    rw [List.getElem?_eq_getElem (by rw [h.1]; exact hi)]
    simpa using this
  · have h1 := h.1
    have e1 : X[i]? = none := List.getElem?_eq_none (by omega)
    have e2 : (List.range n)[i]? = none := List.getElem?_eq_none (by rw [List.length_range]; omega)
    rw [e1, e2]
    rfl
theorem isF.set {X : List Bool} {n : Nat} {p q : Nat → Bool} {k : Nat} (h : isF X n p) {x : Bool} (hk : k < n) (hx : x = q k) (hq : ∀ u, u < n → u ≠ k → p u = q u) : isF (X.set k x) n q := by
  refine ⟨by rw [List.length_set]; exact h.1, fun u hu => ?_⟩
  rw [List.getD_eq_getElem?_getD, List.getElem?_set]
  by_cases e : k = u
  · subst e
    rw [if_pos rfl, if_pos (by rw [h.1]; exact hk), Option.getD_some, hx]
  · rw [if_neg e, ← List.getD_eq_getElem?_getD, h.2 u hu]
    exact hq u hu fun e' => e e'.symm
theorem isF.rep (n : Nat) : isF (List.replicate n false) n fun _ => false := ⟨List.length_replicate, fun u hu => by rw [List.getD_eq_getElem?_getD, List.getElem?_replicate, if_pos hu]; rfl⟩
theorem isF.congr {X : List Bool} {n : Nat} {p q : Nat → Bool} (h : isF X n p) (hq : ∀ u, u < n → p u = q u) : isF X n q := ⟨h.1, fun u hu => (h.2 u hu).trans (hq u hu)⟩
theorem own_ramp {c : Cht} {b : Cls} {r : Rmp} (hb : clsB b = true) (hr : rampB c r = true) : rampB c (r.own b) = true := by
  have h1 := ((clsB_iff b).1 hb).1
  unfold rampB Rmp.own at *
  simp only [Bool.and_eq_true, inB_iff] at hr ⊢
  exact ⟨⟨⟨⟨hr.1.1.1.1, h1⟩, hr.1.1.2⟩, hr.1.2⟩, hr.2⟩
theorem open5_fn (w : World) (hw : Ways w) (v : Value) (c : Cht) (hc : ChOk w v c) (hsm : c.small) (b : Cls) (r : Rmp) (t f : Int) :
    SX.Fn Tryd.prog 45 [v, clv b, rmv r, I t, I f] w (fun _ => False) (OpenP v c b r t f) := by
  have hc0 := hc
  have hD := detO_ok (X := fun _ => False) hw hc (fun _ _ => id)
  have hck : detO v c 55 [v] = some (I (if c.okB then 0 else 10)) := (detM_check (v := v) hsm).1
  have hfl := @detO_floats v c hsm
  have hnx := @detO_next v c hsm
  obtain ⟨sD, sT, sS, rfl, hsD, hsT, hsS⟩ := hc
  obtain ⟨aD, nD, cD, rfl⟩ := hsD.shape
  obtain ⟨aT, nT, cT, rfl⟩ := hsT.shape
  obtain ⟨aS, nS, cS, rfl⟩ := hsS.shape
  have hnD := hsD.le i1_len (by omega)
  have hnT := hsT.le spc_len (by omega)
  have hnS := hsS.le i1_len (by omega)
  subst hnD hnT hnS
  have hrS := hsS.rd0
  have htl : c.tide.length ≤ 100 := hsm.2.1
  have dq := detO_eq (.agg #[I c.wide, I c.high, .slice aD c.depth.length cD, .slice aT c.tide.length cT, .slice aS c.swell.length cS]) c
  have dn : (∀ xs, detO (.agg #[I c.wide, I c.high, .slice aD c.depth.length cD, .slice aT c.tide.length cT, .slice aS c.swell.length cS]) c 25 xs = none) := fun _ => rfl
  have hwin := fun (H : List HO) w' (hp : Hp ⟨w, fun _ => False⟩ H w') r => win_fn w' _ c r (hc0.hp hp) hsm
  unfold clv rmv OpenP
  refine walk [22, 76] [] hD Tryd.func45 rfl Tryd.ntmps45 res45 (by kernel_rfl) no_facts ?_
  cases hok : c.okB with
  | false =>
    rw [hok] at hck
    have hE : staE c b r t f = 10 := by unfold staE; rw [hok]; rfl
    rw [hE]
    simp (config := { maxSteps := 4000000 }) only [↓sx0, ↓sx1, ↓sx2, ↓sx3, ↓sx4, ↓sx5, ↓sx6, sx0, sx1, sx2, sx3, sx4, sx5, sx6, tf45, ev3_hold, sxo, sxc, sxp, sxq, sxr, sxs, sxl, sxm, Int.reduceBEq, Int.reduceBNe, Int.reduceLT, Int.reduceLE, Int.reduceEq, Int.reduceGT, Int.reduceGE, Int.reduceToNat, ↓reduceIte, List.reduceReplicate, Nat.reduceAdd, Nat.reduceSub, Nat.reduceMul, Nat.reduceLT, Nat.reduceLeDiff, Nat.reduceBEq, Nat.reduceEqDiff, hck]
    exact .inl trivial
  | true =>
  rw [hok] at hck
  have hok' := (okB_iff c).1 hok
  cases hcl : clsB b with
  | false =>
    have hE : staE c b r t f = 50 := by unfold staE; rw [hok, hcl]; rfl
    have hcl' : clsB ⟨b.draught, b.seas, b.move, b.idle, b.reserve, b.seats, b.moment⟩ = false := hcl
    rw [hE]
    simp (config := { maxSteps := 4000000 }) only [↓sx0, ↓sx1, ↓sx2, ↓sx3, ↓sx4, ↓sx5, ↓sx6, sx0, sx1, sx2, sx3, sx4, sx5, sx6, tf45, ev3_hold, sxo, sxc, sxp, sxq, sxr, sxs, sxl, sxm, Int.reduceBEq, Int.reduceBNe, Int.reduceLT, Int.reduceLE, Int.reduceEq, Int.reduceGT, Int.reduceGE, Int.reduceToNat, ↓reduceIte, List.reduceReplicate, Nat.reduceAdd, Nat.reduceSub, Nat.reduceMul, Nat.reduceLT, Nat.reduceLeDiff, Nat.reduceBEq, Nat.reduceEqDiff, hck, dq, hcl']
    exact .inl trivial
  | true =>
  have hcl' : clsB ⟨b.draught, b.seas, b.move, b.idle, b.reserve, b.seats, b.moment⟩ = true := hcl
  simp (config := { maxSteps := 4000000 }) only [↓sx0, ↓sx1, ↓sx2, ↓sx3, ↓sx4, ↓sx5, ↓sx6, sx0, sx1, sx2, sx3, sx4, sx5, sx6, tf45, ev3_hold, sxo, sxc, sxp, sxq, sxr, sxs, sxl, sxm, Int.reduceBEq, Int.reduceBNe, Int.reduceLT, Int.reduceLE, Int.reduceEq, Int.reduceGT, Int.reduceGE, Int.reduceToNat, ↓reduceIte, List.reduceReplicate, Nat.reduceAdd, Nat.reduceSub, Nat.reduceMul, Nat.reduceLT, Nat.reduceLeDiff, Nat.reduceBEq, Nat.reduceEqDiff, hck, dq, hcl', dn]
  refine CallOb.pureH (fun w' hp => hwin _ w' hp r) ?_
  rintro q N ⟨x1, y1, rfl, _, _⟩
  cases hr : rampB c r with
  | false =>
    have hE : staE c b r t f = 11 := by unfold staE; rw [hok, hcl, hr]; rfl
    have hwe : winE c r = 11 := by unfold winE winOk; rw [hok, hr]; rfl
    rw [hE, hwe]
    refine ⟨?_⟩
    simp (config := { maxSteps := 4000000 }) only [↓sx0, ↓sx1, ↓sx2, ↓sx3, ↓sx4, ↓sx5, ↓sx6, sx0, sx1, sx2, sx3, sx4, sx5, sx6, tf45, ev3_hold, sxo, sxc, sxp, sxq, sxr, sxs, sxl, sxm, Int.reduceBEq, Int.reduceBNe, Int.reduceLT, Int.reduceLE, Int.reduceEq, Int.reduceGT, Int.reduceGE, Int.reduceToNat, ↓reduceIte, List.reduceReplicate, Nat.reduceAdd, Nat.reduceSub, Nat.reduceMul, Nat.reduceLT, Nat.reduceLeDiff, Nat.reduceBEq, Nat.reduceEqDiff]
    exact .inl trivial
  | true =>
  have hwe : winE c r = 0 := by unfold winE winOk; rw [hok, hr]; rfl
  have e0 : wr ((c.tide.length : Int) - 1) = (c.tide.length : Int) - 1 := wrap_id (by omega)
  rw [hwe]
  cases h1 : inB t 0 ((c.tide.length : Int) - 1) with
  | false =>
    have hE : staE c b r t f = 1 := by unfold staE; rw [hok, hcl, hr, h1]; rfl
    rw [hE]
    refine ⟨?_⟩
    simp (config := { maxSteps := 4000000 }) only [↓sx0, ↓sx1, ↓sx2, ↓sx3, ↓sx4, ↓sx5, ↓sx6, sx0, sx1, sx2, sx3, sx4, sx5, sx6, tf45, ev3_hold, sxo, sxc, sxp, sxq, sxr, sxs, sxl, sxm, Int.reduceBEq, Int.reduceBNe, Int.reduceLT, Int.reduceLE, Int.reduceEq, Int.reduceGT, Int.reduceGE, Int.reduceToNat, ↓reduceIte, List.reduceReplicate, Nat.reduceAdd, Nat.reduceSub, Nat.reduceMul, Nat.reduceLT, Nat.reduceLeDiff, Nat.reduceBEq, Nat.reduceEqDiff, dq, e0, h1]
    exact .inl trivial
  | true =>
  cases h2 : inB f 0 5000 with
  | false =>
    have hE : staE c b r t f = 1 := by unfold staE; rw [hok, hcl, hr, h1, h2]; rfl
    rw [hE]
    refine ⟨?_⟩
    simp (config := { maxSteps := 4000000 }) only [↓sx0, ↓sx1, ↓sx2, ↓sx3, ↓sx4, ↓sx5, ↓sx6, sx0, sx1, sx2, sx3, sx4, sx5, sx6, tf45, ev3_hold, sxo, sxc, sxp, sxq, sxr, sxs, sxl, sxm, Int.reduceBEq, Int.reduceBNe, Int.reduceLT, Int.reduceLE, Int.reduceEq, Int.reduceGT, Int.reduceGE, Int.reduceToNat, ↓reduceIte, List.reduceReplicate, Nat.reduceAdd, Nat.reduceSub, Nat.reduceMul, Nat.reduceLT, Nat.reduceLeDiff, Nat.reduceBEq, Nat.reduceEqDiff, dq, e0, h1, h2]
    exact .inl trivial
  | true =>
  have hE : staE c b r t f = 0 := by unfold staE; rw [hok, hcl, hr, h1, h2]; rfl
  rw [hE]
  refine ⟨?_⟩
  simp (config := { maxSteps := 4000000 }) only [↓sx0, ↓sx1, ↓sx2, ↓sx3, ↓sx4, ↓sx5, ↓sx6, sx0, sx1, sx2, sx3, sx4, sx5, sx6, tf45, ev3_hold, sxo, sxc, sxp, sxq, sxr, sxs, sxl, sxm, Int.reduceBEq, Int.reduceBNe, Int.reduceLT, Int.reduceLE, Int.reduceEq, Int.reduceGT, Int.reduceGE, Int.reduceToNat, ↓reduceIte, List.reduceReplicate, Nat.reduceAdd, Nat.reduceSub, Nat.reduceMul, Nat.reduceLT, Nat.reduceLeDiff, Nat.reduceBEq, Nat.reduceEqDiff, dq, e0, h1, h2, dn]
  refine ⟨by omega, by omega, by omega, fun b1' bs => ?_⟩
  refine CallOb.pureH (fun w' hp => hwin _ w' hp (r.own b)) ?_
  rintro q N2 ⟨x2, y2, rfl, hx2, _⟩
  have hrr : rampB c (r.own b) = true := own_ramp hcl hr
  have hwk : winOk c (r.own b) = true := by unfold winOk; rw [hok, hrr]; rfl
  have hwe2 : winE c (r.own b) = 0 := by unfold winE; rw [if_pos hwk]
  have hSe : winS c (r.own b) = winL (sureT c (r.own b)) c.tide.length := by unfold winS; rw [if_pos hwk]
  rw [hSe] at hx2
  obtain ⟨hS1, hS2⟩ := winL_ok (sureT c (r.own b)) c.tide.length
  obtain ⟨S, hS⟩ : ∃ S, winL (sureT c (r.own b)) c.tide.length = S := ⟨_, rfl⟩
  have hSl := winL_len (sureT c (r.own b)) c.tide.length
  rw [hS] at hS1 hS2 hx2 hSl
  have hrx := fun (H : List HO) (hm : ∀ h ∈ N2, h ∈ H) => hx2.rdv (w0 := ⟨w, fun _ => False⟩) (H := H) spc_len hm
  obtain ⟨ax, cx, rfl⟩ := hx2.shape
  have hds := hok'.2.2.2.2.1
  have h60 : c.tide.length ≤ 60 := hok'.2.2.2.1.2
  rw [hwe2]
  obtain ⟨vr, hvr⟩ : ∃ vr, Value.slice (some (⟨b1', 0, none⟩ : Addr)) c.tide.length c.tide.length = vr := ⟨_, rfl⟩
  refine ⟨?_⟩
  simp (config := { maxSteps := 4000000 }) only [↓sx0, ↓sx1, ↓sx2, ↓sx3, ↓sx4, ↓sx5, ↓sx6, sx0, sx1, sx2, sx3, sx4, sx5, sx6, tf45, ev3_hold, sxo, sxc, sxp, sxq, sxr, sxs, sxl, sxm, Int.reduceBEq, Int.reduceBNe, Int.reduceLT, Int.reduceLE, Int.reduceEq, Int.reduceGT, Int.reduceGE, Int.reduceToNat, ↓reduceIte, List.reduceReplicate, Nat.reduceAdd, Nat.reduceSub, Nat.reduceMul, Nat.reduceLT, Nat.reduceLeDiff, Nat.reduceBEq, Nat.reduceEqDiff]
  refine loop_constH (.row (.slice (some ⟨b1', 0, none⟩) c.tide.length c.tide.length) 4 1 (bools (List.replicate c.tide.length false)) :: .cells bs 106 (staC c b r.cell (.slice aD c.depth.length cD) (.slice aT c.tide.length cT) (.slice aS c.swell.length cS) (.slice (some ⟨b1', 0, none⟩) c.tide.length c.tide.length) (.slice none 0 0) (.slice none 0 0)) :: N2) ?_ [(22, 23), (89, 115)] (fun q : Nat × List Bool => [(89, I q.1)])
    (fun q H1 => q.1 ≤ S.length ∧ isF q.2 c.tide.length (fun u => (S.take q.1).any (inW u) && decide (c.swl u ≤ b.seas)) ∧ H1 = .row (.slice (some ⟨b1', 0, none⟩) c.tide.length c.tide.length) 4 1 (bools q.2) :: .cells bs 106 (staC c b r.cell (.slice aD c.depth.length cD) (.slice aT c.tide.length cT) (.slice aS c.swell.length cS) (.slice (some ⟨b1', 0, none⟩) c.tide.length c.tide.length) (.slice none 0 0) (.slice none 0 0)) :: N2) (fun q => S.length - q.1) (0, List.replicate c.tide.length false) ?_ ⟨Nat.zero_le _, (isF.rep _).congr fun u _ => by simp, rfl⟩ ?_
  · rw [show bools (List.replicate c.tide.length false) = zerosL c.tide.length [Value.bool false] from (zeros_cat b1 false _).symm]
    exact HImp.trans (HImp.sub (List.Sublist.append (List.Sublist.refl N2) (((List.nil_sublist N).cons_cons _).cons_cons _))) (HImp.trans (HImp.perm List.perm_append_comm) (HImp.swap _ _ _ _))
  · simp (config := { maxSteps := 4000000 }) only [↓sx0, ↓sx1, ↓sx2, ↓sx3, ↓sx4, ↓sx5, ↓sx6, sx0, sx1, sx2, sx3, sx4, sx5, sx6, tf45, ev3_hold, sxo, sxc, sxp, sxq, sxr, sxs, sxl, sxm, Int.reduceBEq, Int.reduceBNe, Int.reduceLT, Int.reduceLE, Int.reduceEq, Int.reduceGT, Int.reduceGE, Int.reduceToNat, ↓reduceIte, List.reduceReplicate, Nat.reduceAdd, Nat.reduceSub, Nat.reduceMul, Nat.reduceLT, Nat.reduceLeDiff, Nat.reduceBEq, Nat.reduceEqDiff]
    try simp
  rintro ⟨j, X⟩ H1 g1 hinv
  simp only [] at hinv
  obtain ⟨hj, hX, rfl⟩ := hinv
  by_cases hjn : j = S.length
  · have e7 : ((j : Int) < (S.length : Int)) = False := eq_false (by omega)
    have hXe : X = rdyL c b r := by
      refine (hX.congr fun u hu => ?_).eq
      rw [hjn, List.take_of_length_le (Nat.le_refl _), hS2 u, decide_eq_true hu, Bool.true_and]
      rfl
    rw [hXe]
    refine ⟨?_⟩
    simp (config := { maxSteps := 4000000 }) only [↓sx0, ↓sx1, ↓sx2, ↓sx3, ↓sx4, ↓sx5, ↓sx6, sx0, sx1, sx2, sx3, sx4, sx5, sx6, tf45, ev3_hold, sxo, sxc, sxp, sxq, sxr, sxs, sxl, sxm, Int.reduceBEq, Int.reduceBNe, Int.reduceLT, Int.reduceLE, Int.reduceEq, Int.reduceGT, Int.reduceGE, Int.reduceToNat, ↓reduceIte, List.reduceReplicate, Nat.reduceAdd, Nat.reduceSub, Nat.reduceMul, Nat.reduceLT, Nat.reduceLeDiff, Nat.reduceBEq, Nat.reduceEqDiff, e7]
    refine loop_constH (.row (.slice none 0 0) 102 1 (cat lpc ([] : List (Lp Bool))) :: HO.cells bs 106 (staC c b r.cell (.slice aD c.depth.length cD) (.slice aT c.tide.length cT) (.slice aS c.swell.length cS) (.slice (some ⟨b1', 0, none⟩) c.tide.length c.tide.length) (.slice none 0 0) (.slice none 0 0)) :: [HO.row (.slice (some ⟨b1', 0, none⟩) c.tide.length c.tide.length) 4 1 (bools (rdyL c b r))]) ?_ [(24, 29), (119, 166)] (fun q : Nat × Option Addr × Nat => [(119, I q.1)])
      (fun q H1 => q.1 ≤ c.tide.length ∧ ∃ ps DF, ps.map Prod.fst = (canL c b).take q.1 ∧ (q.2.1 = none → ps = []) ∧ H1 = .row (.slice q.2.1 q.1 q.2.2) 102 1 (cat lpc (ps : List (Lp Bool))) :: HO.cells bs 106 (staC c b r.cell (.slice aD c.depth.length cD) (.slice aT c.tide.length cT) (.slice aS c.swell.length cS) (.slice (some ⟨b1', 0, none⟩) c.tide.length c.tide.length) (.slice q.2.1 q.1 q.2.2) (.slice none 0 0)) :: DF ∧ HO.row (.slice (some ⟨b1', 0, none⟩) c.tide.length c.tide.length) 4 1 (bools (rdyL c b r)) ∈ DF ∧ ∀ p ∈ ps, HO.row (lpv p) 4 1 (bools p.1) ∈ DF) (fun q => c.tide.length - q.1) (0, none, 0) ?_ ⟨Nat.zero_le _, [], _, rfl, fun _ => rfl, rfl, List.mem_singleton_self _, fun p hp => by cases hp⟩ ?_
    · exact (HImp.nilRow _ _ _ _).trans ((HImp.sub (((List.nil_sublist N2).cons_cons _).cons_cons _ |>.cons_cons _)).trans (HImp.perm (List.Perm.cons _ (List.Perm.swap _ _ _))))
    · simp (config := { maxSteps := 4000000 }) only [↓sx0, ↓sx1, ↓sx2, ↓sx3, ↓sx4, ↓sx5, ↓sx6, sx0, sx1, sx2, sx3, sx4, sx5, sx6, tf45, ev3_hold, sxo, sxc, sxp, sxq, sxr, sxs, sxl, sxm, Int.reduceBEq, Int.reduceBNe, Int.reduceLT, Int.reduceLE, Int.reduceEq, Int.reduceGT, Int.reduceGE, Int.reduceToNat, ↓reduceIte, List.reduceReplicate, Nat.reduceAdd, Nat.reduceSub, Nat.reduceMul, Nat.reduceLT, Nat.reduceLeDiff, Nat.reduceBEq, Nat.reduceEqDiff]
      try simp
    rintro ⟨t2, ac, cc⟩ H2 g2 hinv2
    simp only [] at hinv2
    obtain ⟨ht2, ps, DF, hps, hnil, rfl, hrd, hDF⟩ := hinv2
    by_cases htn : t2 = c.tide.length
    · subst htn
      have e8 : ((c.tide.length : Int) < (c.tide.length : Int)) = False := eq_false (by omega)
      rw [List.take_of_length_le (by unfold canL; rw [List.length_map, List.length_range]; exact Nat.le_refl _)] at hps
      obtain ⟨DF2, hDF2⟩ : ∃ DF2, HO.row (.slice ac c.tide.length cc) 102 1 (cat lpc (ps : List (Lp Bool))) :: DF = DF2 := ⟨_, rfl⟩
      have hLN : ∀ H, (∀ h ∈ DF2, h ∈ H) → HO.row (.slice (some ⟨b1', 0, none⟩) c.tide.length c.tide.length) 4 1 (bools (rdyL c b r)) ∈ H ∧ LLN b1 1 102 4 H (.slice ac c.tide.length cc) (canL c b) := fun H hm => by
        subst hDF2
        exact ⟨hm _ (List.mem_cons_of_mem _ hrd), ps, hps, hm _ List.mem_cons_self, fun p hp => hm _ (List.mem_cons_of_mem _ (hDF p hp))⟩
      have hdl : c.depth.length ≤ 200 := hsm.1
      refine ⟨?_⟩
      simp (config := { maxSteps := 4000000 }) only [↓sx0, ↓sx1, ↓sx2, ↓sx3, ↓sx4, ↓sx5, ↓sx6, sx0, sx1, sx2, sx3, sx4, sx5, sx6, tf45, ev3_hold, sxo, sxc, sxp, sxq, sxr, sxs, sxl, sxm, Int.reduceBEq, Int.reduceBNe, Int.reduceLT, Int.reduceLE, Int.reduceEq, Int.reduceGT, Int.reduceGE, Int.reduceToNat, ↓reduceIte, List.reduceReplicate, Nat.reduceAdd, Nat.reduceSub, Nat.reduceMul, Nat.reduceLT, Nat.reduceLeDiff, Nat.reduceBEq, Nat.reduceEqDiff, e8]
      refine loop_constH (.row (.slice none 0 0) 22 1 (cat lpc ([] : List (Lp Int))) :: HO.cells bs 106 (staC c b r.cell (.slice aD c.depth.length cD) (.slice aT c.tide.length cT) (.slice aS c.swell.length cS) (.slice (some ⟨b1', 0, none⟩) c.tide.length c.tide.length) (.slice ac c.tide.length cc) (.slice none 0 0)) :: DF2) ?_ [(30, 34), (170, 202)] (fun q : Nat × Option Addr × Nat => [(170, I q.1)])
        (fun q H1 => q.1 ≤ c.depth.length ∧ ∃ pn DN, pn.map Prod.fst = (nearL c).take q.1 ∧ (q.2.1 = none → pn = []) ∧ H1 = .row (.slice q.2.1 q.1 q.2.2) 22 1 (cat lpc (pn : List (Lp Int))) :: HO.cells bs 106 (staC c b r.cell (.slice aD c.depth.length cD) (.slice aT c.tide.length cT) (.slice aS c.swell.length cS) (.slice (some ⟨b1', 0, none⟩) c.tide.length c.tide.length) (.slice ac c.tide.length cc) (.slice q.2.1 q.1 q.2.2)) :: DN ∧ (∀ h ∈ DF2, h ∈ DN) ∧ ∀ p ∈ pn, HO.row (lpv p) 3 1 (ints p.1) ∈ DN) (fun q => c.depth.length - q.1) (0, none, 0) ?_ ⟨Nat.zero_le _, [], DF2, rfl, fun _ => rfl, rfl, fun h hh => hh, fun p hp => by cases hp⟩ ?_
      · subst hDF2
        exact (HImp.nilRow _ _ _ _).trans (HImp.perm (List.Perm.cons _ (List.Perm.swap _ _ _)))
      · simp (config := { maxSteps := 4000000 }) only [↓sx0, ↓sx1, ↓sx2, ↓sx3, ↓sx4, ↓sx5, ↓sx6, sx0, sx1, sx2, sx3, sx4, sx5, sx6, tf45, ev3_hold, sxo, sxc, sxp, sxq, sxr, sxs, sxl, sxm, Int.reduceBEq, Int.reduceBNe, Int.reduceLT, Int.reduceLE, Int.reduceEq, Int.reduceGT, Int.reduceGE, Int.reduceToNat, ↓reduceIte, List.reduceReplicate, Nat.reduceAdd, Nat.reduceSub, Nat.reduceMul, Nat.reduceLT, Nat.reduceLeDiff, Nat.reduceBEq, Nat.reduceEqDiff]
        try simp
      rintro ⟨k, an, cn⟩ H3 g3 hinv3
      simp only [] at hinv3
      obtain ⟨hk, pn, DN, hpn, hnil3, rfl, hD2, hDN⟩ := hinv3
      by_cases hkn : k = c.depth.length
      · subst hkn
        have e10 : ((c.depth.length : Int) < (c.depth.length : Int)) = False := eq_false (by omega)
        rw [List.take_of_length_le (by unfold nearL; rw [List.length_map, List.length_range]; exact Nat.le_refl _)] at hpn
        have hLN2 := hLN (.row (.slice an c.depth.length cn) 22 1 (cat lpc (pn : List (Lp Int))) :: HO.cells bs 106 (staC c b r.cell (.slice aD c.depth.length cD) (.slice aT c.tide.length cT) (.slice aS c.swell.length cS) (.slice (some ⟨b1', 0, none⟩) c.tide.length c.tide.length) (.slice ac c.tide.length cc) (.slice an c.depth.length cn)) :: DN) (fun h hh => List.mem_cons_of_mem _ (List.mem_cons_of_mem _ (hD2 h hh)))
        refine ⟨?_⟩
        simp (config := { maxSteps := 4000000 }) only [↓sx0, ↓sx1, ↓sx2, ↓sx3, ↓sx4, ↓sx5, ↓sx6, sx0, sx1, sx2, sx3, sx4, sx5, sx6, tf45, ev3_hold, sxo, sxc, sxp, sxq, sxr, sxs, sxl, sxm, Int.reduceBEq, Int.reduceBNe, Int.reduceLT, Int.reduceLE, Int.reduceEq, Int.reduceGT, Int.reduceGE, Int.reduceToNat, ↓reduceIte, List.reduceReplicate, Nat.reduceAdd, Nat.reduceSub, Nat.reduceMul, Nat.reduceLT, Nat.reduceLeDiff, Nat.reduceBEq, Nat.reduceEqDiff, e10]
        exact .inr ⟨bs, rfl, _, _, _, _, _, _, rfl, List.mem_cons_of_mem _ List.mem_cons_self, hLN2.1, hLN2.2, pn, hpn, List.mem_cons_self, fun p hp => List.mem_cons_of_mem _ (List.mem_cons_of_mem _ (hDN p hp))⟩
      have e10 : ((k : Int) < (c.depth.length : Int)) = True := eq_true (by omega)
      have e11 : wr (k + 1) = ((k + 1 : Nat) : Int) := (wrap_id (by omega)).trans (by omega)
      have hpl : pn.length = k := by
        have := congrArg List.length hpn
        rw [List.length_map, List.length_take] at this
        unfold nearL at this
        rw [List.length_map, List.length_range] at this
        omega
      refine ⟨?_⟩
      simp (config := { maxSteps := 4000000 }) only [↓sx0, ↓sx1, ↓sx2, ↓sx3, ↓sx4, ↓sx5, ↓sx6, sx0, sx1, sx2, sx3, sx4, sx5, sx6, tf45, ev3_hold, sxo, sxc, sxp, sxq, sxr, sxs, sxl, sxm, Int.reduceBEq, Int.reduceBNe, Int.reduceLT, Int.reduceLE, Int.reduceEq, Int.reduceGT, Int.reduceGE, Int.reduceToNat, ↓reduceIte, List.reduceReplicate, Nat.reduceAdd, Nat.reduceSub, Nat.reduceMul, Nat.reduceLT, Nat.reduceLeDiff, Nat.reduceBEq, Nat.reduceEqDiff, e10]
      intro b5
      refine loop_constH (HO.row (.slice (some ⟨b5, 0, none⟩) 1 1) 3 1 (ints (nts (k :: besL c.W c.H k 0))) :: .row (.slice an k cn) 22 1 (cat lpc (pn : List (Lp Int))) :: HO.cells bs 106 (staC c b r.cell (.slice aD c.depth.length cD) (.slice aT c.tide.length cT) (.slice aS c.swell.length cS) (.slice (some ⟨b1', 0, none⟩) c.tide.length c.tide.length) (.slice ac c.tide.length cc) (.slice an k cn)) :: DN) (HImp.refl _ _) [(31, 34), (175, 191)] (fun q : Nat × Addr × Nat => [(31, .slice (some q.2.1) (nts (k :: besL c.W c.H k q.1)).length q.2.2), (175, I q.1)])
        (fun q H1 => q.1 ≤ 6 ∧ H1 = HO.row (.slice (some q.2.1) (nts (k :: besL c.W c.H k q.1)).length q.2.2) 3 1 (ints (nts (k :: besL c.W c.H k q.1))) :: .row (.slice an k cn) 22 1 (cat lpc (pn : List (Lp Int))) :: HO.cells bs 106 (staC c b r.cell (.slice aD c.depth.length cD) (.slice aT c.tide.length cT) (.slice aS c.swell.length cS) (.slice (some ⟨b1', 0, none⟩) c.tide.length c.tide.length) (.slice ac c.tide.length cc) (.slice an k cn)) :: DN) (fun q => 6 - q.1) (0, ⟨b5, 0, none⟩, 1) ?_ ⟨Nat.zero_le _, rfl⟩ ?_
      · simp (config := { maxSteps := 4000000 }) only [↓sx0, ↓sx1, ↓sx2, ↓sx3, ↓sx4, ↓sx5, ↓sx6, sx0, sx1, sx2, sx3, sx4, sx5, sx6, tf45, ev3_hold, sxo, sxc, sxp, sxq, sxr, sxs, sxl, sxm, Int.reduceBEq, Int.reduceBNe, Int.reduceLT, Int.reduceLE, Int.reduceEq, Int.reduceGT, Int.reduceGE, Int.reduceToNat, ↓reduceIte, List.reduceReplicate, Nat.reduceAdd, Nat.reduceSub, Nat.reduceMul, Nat.reduceLT, Nat.reduceLeDiff, Nat.reduceBEq, Nat.reduceEqDiff]
        simp [besL, nts]
      rintro ⟨d, al, cl⟩ H4 g4 hinv4
      simp only [] at hinv4
      obtain ⟨hd, rfl⟩ := hinv4
      by_cases hdn : d = 6
      · subst hdn
        have hpn2 : (pn ++ [((nts (nbL c.W c.H k), some al, (nts (k :: besL c.W c.H k 6)).length, cl) : Lp Int)]).map Prod.fst = (nearL c).take (k + 1) := by
          have hn : (nearL c)[k]? = some (nts (nbL c.W c.H k)) := by
            unfold nearL
            rw [List.getElem?_map, List.getElem?_range (by omega)]
            rfl
          rw [List.map_append, hpn, List.take_add_one, hn]
          rfl
        have e12 : (((6 : Nat) : Int) < 6) = False := eq_false (by omega)
        refine ⟨?_⟩
        simp (config := { maxSteps := 4000000 }) only [↓sx0, ↓sx1, ↓sx2, ↓sx3, ↓sx4, ↓sx5, ↓sx6, sx0, sx1, sx2, sx3, sx4, sx5, sx6, tf45, ev3_hold, sxo, sxc, sxp, sxq, sxr, sxs, sxl, sxm, Int.reduceBEq, Int.reduceBNe, Int.reduceLT, Int.reduceLE, Int.reduceEq, Int.reduceGT, Int.reduceGE, Int.reduceToNat, ↓reduceIte, List.reduceReplicate, Nat.reduceAdd, Nat.reduceSub, Nat.reduceMul, Nat.reduceLT, Nat.reduceLeDiff, Nat.reduceBEq, Nat.reduceEqDiff, e12]
        refine ld_cella (T := 106) (cs := (staC c b r.cell (.slice aD c.depth.length cD) (.slice aT c.tide.length cT) (.slice aS c.swell.length cS) (.slice (some ⟨b1', 0, none⟩) c.tide.length c.tide.length) (.slice ac c.tide.length cc) (.slice an k cn))) (List.mem_cons_of_mem _ (List.mem_cons_of_mem _ List.mem_cons_self)) rfl ?_
        simp (config := { maxSteps := 4000000 }) only [↓sx0, ↓sx1, ↓sx2, ↓sx3, ↓sx4, ↓sx5, ↓sx6, sx0, sx1, sx2, sx3, sx4, sx5, sx6, tf45, ev3_hold, sxo, sxc, sxp, sxq, sxr, sxs, sxl, sxm, Int.reduceBEq, Int.reduceBNe, Int.reduceLT, Int.reduceLE, Int.reduceEq, Int.reduceGT, Int.reduceGE, Int.reduceToNat, ↓reduceIte, List.reduceReplicate, Nat.reduceAdd, Nat.reduceSub, Nat.reduceMul, Nat.reduceLT, Nat.reduceLeDiff, Nat.reduceBEq, Nat.reduceEqDiff]
        intro b6
        refine app_one (f := lpc) (l := pn) ((nts (nbL c.W c.H k), some al, (nts (k :: besL c.W c.H k 6)).length, cl) : Lp Int) (HImp.swap _ _ _ _) lpc_len lpc_one (by omega) fun a7 c7 => ?_
        rw [hpl]
        simp (config := { maxSteps := 4000000 }) only [↓sx0, ↓sx1, ↓sx2, ↓sx3, ↓sx4, ↓sx5, ↓sx6, sx0, sx1, sx2, sx3, sx4, sx5, sx6, tf45, ev3_hold, sxo, sxc, sxp, sxq, sxr, sxs, sxl, sxm, Int.reduceBEq, Int.reduceBNe, Int.reduceLT, Int.reduceLE, Int.reduceEq, Int.reduceGT, Int.reduceGE, Int.reduceToNat, ↓reduceIte, List.reduceReplicate, Nat.reduceAdd, Nat.reduceSub, Nat.reduceMul, Nat.reduceLT, Nat.reduceLeDiff, Nat.reduceBEq, Nat.reduceEqDiff]
        refine wr_cella (A := [_, _]) (cs := (staC c b r.cell (.slice aD c.depth.length cD) (.slice aT c.tide.length cT) (.slice aS c.swell.length cS) (.slice (some ⟨b1', 0, none⟩) c.tide.length c.tide.length) (.slice ac c.tide.length cc) (.slice an k cn))) rfl (by simp [staC]) ?_
        simp (config := { maxSteps := 4000000 }) only [↓sx0, ↓sx1, ↓sx2, ↓sx3, ↓sx4, ↓sx5, ↓sx6, sx0, sx1, sx2, sx3, sx4, sx5, sx6, tf45, ev3_hold, sxo, sxc, sxp, sxq, sxr, sxs, sxl, sxm, Int.reduceBEq, Int.reduceBNe, Int.reduceLT, Int.reduceLE, Int.reduceEq, Int.reduceGT, Int.reduceGE, Int.reduceToNat, ↓reduceIte, List.reduceReplicate, Nat.reduceAdd, Nat.reduceSub, Nat.reduceMul, Nat.reduceLT, Nat.reduceLeDiff, Nat.reduceBEq, Nat.reduceEqDiff, e11]
        exact ⟨(k + 1, some a7, c7), _, rfl, HImp.perm (List.Perm.cons _ (List.Perm.swap _ _ _)), ⟨by simp only []; omega, _, _ :: DN, hpn2, fun h => (by cases h), rfl, fun h hh => List.mem_cons_of_mem _ (hD2 h hh), fun p hp => by
          rcases List.mem_append.1 hp with h | h
          · exact List.mem_cons_of_mem _ (hDN p h)
          · rw [List.mem_singleton] at h
            subst h
            exact List.mem_cons_self⟩, by first | omega | (simp only []; omega)⟩
      have e12 : ((d : Int) < 6) = True := eq_true (by omega)
      have e13 : wr (d + 1) = ((d + 1 : Nat) : Int) := (wrap_id (by omega)).trans (by omega)
      have hf := hnx hok' (show k < c.depth.length by omega) (show d < 6 by omega)
      have hbs := besL_succ c.W c.H k d
      have hbl := nbL_len c.W c.H k
      cases hb : bes c.W c.H k d with
      | none =>
        rw [hb] at hf hbs
        rw [Option.toList_none, List.append_nil] at hbs
        refine ⟨?_⟩
        simp (config := { maxSteps := 4000000 }) only [↓sx0, ↓sx1, ↓sx2, ↓sx3, ↓sx4, ↓sx5, ↓sx6, sx0, sx1, sx2, sx3, sx4, sx5, sx6, tf45, ev3_hold, sxo, sxc, sxp, sxq, sxr, sxs, sxl, sxm, Int.reduceBEq, Int.reduceBNe, Int.reduceLT, Int.reduceLE, Int.reduceEq, Int.reduceGT, Int.reduceGE, Int.reduceToNat, ↓reduceIte, List.reduceReplicate, Nat.reduceAdd, Nat.reduceSub, Nat.reduceMul, Nat.reduceLT, Nat.reduceLeDiff, Nat.reduceBEq, Nat.reduceEqDiff, e12, hf, e13]
        exact ⟨(d + 1, al, cl), _, by simp only []; rw [hbs]; exact ⟨rfl, trivial⟩, HImp.refl _ _, ⟨by simp only []; omega, by simp only []; rw [hbs]⟩, by simp only []; omega⟩
      | some m =>
        rw [hb] at hf hbs
        have hns : nts (k :: besL c.W c.H k d) ++ [(m : Int)] = nts (k :: besL c.W c.H k (d + 1)) := by
          rw [hbs]
          unfold nts
          simp
        have hnl : (nts (k :: besL c.W c.H k d)).length ≤ 100 := by
          have h1 := List.length_filterMap_le (bes c.W c.H k) (List.range d)
          rw [List.length_range] at h1
          unfold nts besL
          rw [List.length_map, List.length_cons]
          omega
        have hnl2 : (nts (k :: besL c.W c.H k d)).length + 1 = (nts (k :: besL c.W c.H k (d + 1))).length := by rw [← hns, List.length_append, List.length_singleton]
        refine ⟨?_⟩
        simp (config := { maxSteps := 4000000 }) only [↓sx0, ↓sx1, ↓sx2, ↓sx3, ↓sx4, ↓sx5, ↓sx6, sx0, sx1, sx2, sx3, sx4, sx5, sx6, tf45, ev3_hold, sxo, sxc, sxp, sxq, sxr, sxs, sxl, sxm, Int.reduceBEq, Int.reduceBNe, Int.reduceLT, Int.reduceLE, Int.reduceEq, Int.reduceGT, Int.reduceGE, Int.reduceToNat, ↓reduceIte, List.reduceReplicate, Nat.reduceAdd, Nat.reduceSub, Nat.reduceMul, Nat.reduceLT, Nat.reduceLeDiff, Nat.reduceBEq, Nat.reduceEqDiff, e12, hf]
        intro b6
        refine app_one (f := i1) (l := nts (k :: besL c.W c.H k d)) (m : Int) (HImp.refl _ _) i1_len i1_one (by omega) fun a7 c7 => ?_
        rw [hns, hnl2]
        simp (config := { maxSteps := 4000000 }) only [↓sx0, ↓sx1, ↓sx2, ↓sx3, ↓sx4, ↓sx5, ↓sx6, sx0, sx1, sx2, sx3, sx4, sx5, sx6, tf45, ev3_hold, sxo, sxc, sxp, sxq, sxr, sxs, sxl, sxm, Int.reduceBEq, Int.reduceBNe, Int.reduceLT, Int.reduceLE, Int.reduceEq, Int.reduceGT, Int.reduceGE, Int.reduceToNat, ↓reduceIte, List.reduceReplicate, Nat.reduceAdd, Nat.reduceSub, Nat.reduceMul, Nat.reduceLT, Nat.reduceLeDiff, Nat.reduceBEq, Nat.reduceEqDiff, e13]
        exact ⟨(d + 1, a7, c7), _, ⟨rfl, rfl⟩, HImp.refl _ _, ⟨by simp only []; omega, rfl⟩, by simp only []; omega⟩
    have e8 : ((t2 : Int) < (c.tide.length : Int)) = True := eq_true (by omega)
    have e9 : wr (t2 + 1) = ((t2 + 1 : Nat) : Int) := (wrap_id (by omega)).trans (by omega)
    have hdl : c.depth.length ≤ 200 := hsm.1
    have hsw := getD_at (show t2 < c.swell.length by omega) 0
    have hg := ((clsB_iff b).1 hcl).1
    have hpl : ps.length = t2 := by
      have := congrArg List.length hps
      rw [List.length_map, List.length_take] at this
      unfold canL at this
      rw [List.length_map, List.length_range] at this
      omega
    refine ⟨?_⟩
    simp (config := { maxSteps := 4000000 }) only [↓sx0, ↓sx1, ↓sx2, ↓sx3, ↓sx4, ↓sx5, ↓sx6, sx0, sx1, sx2, sx3, sx4, sx5, sx6, tf45, ev3_hold, sxo, sxc, sxp, sxq, sxr, sxs, sxl, sxm, Int.reduceBEq, Int.reduceBNe, Int.reduceLT, Int.reduceLE, Int.reduceEq, Int.reduceGT, Int.reduceGE, Int.reduceToNat, ↓reduceIte, List.reduceReplicate, Nat.reduceAdd, Nat.reduceSub, Nat.reduceMul, Nat.reduceLT, Nat.reduceLeDiff, Nat.reduceBEq, Nat.reduceEqDiff, e8]
    refine ⟨by omega, by omega, by omega, fun b2 => ?_⟩
    refine loop_constH (HO.row (.slice (some ⟨b2, 0, none⟩) c.depth.length c.depth.length) 4 1 (bools (List.replicate c.depth.length false)) :: .row (.slice ac t2 cc) 102 1 (cat lpc (ps : List (Lp Bool))) :: HO.cells bs 106 (staC c b r.cell (.slice aD c.depth.length cD) (.slice aT c.tide.length cT) (.slice aS c.swell.length cS) (.slice (some ⟨b1', 0, none⟩) c.tide.length c.tide.length) (.slice ac t2 cc) (.slice none 0 0)) :: DF) (by rw [show bools (List.replicate c.depth.length false) = zerosL c.depth.length [Value.bool false] from (zeros_cat b1 false _).symm]; exact HImp.refl _ _) [(26, 29), (128, 155)] (fun q : Nat × List Bool => [(128, I q.1)])
      (fun q H1 => q.1 ≤ c.depth.length ∧ isF q.2 c.depth.length (fun x => decide (x < q.1) && canB c b t2 x) ∧ H1 = HO.row (.slice (some ⟨b2, 0, none⟩) c.depth.length c.depth.length) 4 1 (bools q.2) :: .row (.slice ac t2 cc) 102 1 (cat lpc (ps : List (Lp Bool))) :: HO.cells bs 106 (staC c b r.cell (.slice aD c.depth.length cD) (.slice aT c.tide.length cT) (.slice aS c.swell.length cS) (.slice (some ⟨b1', 0, none⟩) c.tide.length c.tide.length) (.slice ac t2 cc) (.slice none 0 0)) :: DF) (fun q => c.depth.length - q.1) (0, List.replicate c.depth.length false) ?_ ⟨Nat.zero_le _, (isF.rep _).congr fun u _ => by simp, rfl⟩ ?_
    · simp (config := { maxSteps := 4000000 }) only [↓sx0, ↓sx1, ↓sx2, ↓sx3, ↓sx4, ↓sx5, ↓sx6, sx0, sx1, sx2, sx3, sx4, sx5, sx6, tf45, ev3_hold, sxo, sxc, sxp, sxq, sxr, sxs, sxl, sxm, Int.reduceBEq, Int.reduceBNe, Int.reduceLT, Int.reduceLE, Int.reduceEq, Int.reduceGT, Int.reduceGE, Int.reduceToNat, ↓reduceIte, List.reduceReplicate, Nat.reduceAdd, Nat.reduceSub, Nat.reduceMul, Nat.reduceLT, Nat.reduceLeDiff, Nat.reduceBEq, Nat.reduceEqDiff]
      try simp
    rintro ⟨k, Y⟩ H3 g3 hinv3
    simp only [] at hinv3
    obtain ⟨hk, hY, rfl⟩ := hinv3
    have hYl := hY.1
    by_cases hkn : k = c.depth.length
    · have e10 : ((k : Int) < (c.depth.length : Int)) = False := eq_false (by omega)
      have hYe : Y = canT c b t2 := (hY.congr fun u hu => by rw [decide_eq_true (show u < k by omega), Bool.true_and]).eq
      have hps2 : (ps ++ [((canT c b t2, some ⟨b2, 0, none⟩, c.depth.length, c.depth.length) : Lp Bool)]).map Prod.fst = (canL c b).take (t2 + 1) := by
        have hn : (canL c b)[t2]? = some (canT c b t2) := by
          unfold canL
          rw [List.getElem?_map, List.getElem?_range (by omega)]
          rfl
        rw [List.map_append, hps, List.take_add_one, hn]
        rfl
      rw [hYe]
      refine ⟨?_⟩
      simp (config := { maxSteps := 4000000 }) only [↓sx0, ↓sx1, ↓sx2, ↓sx3, ↓sx4, ↓sx5, ↓sx6, sx0, sx1, sx2, sx3, sx4, sx5, sx6, tf45, ev3_hold, sxo, sxc, sxp, sxq, sxr, sxs, sxl, sxm, Int.reduceBEq, Int.reduceBNe, Int.reduceLT, Int.reduceLE, Int.reduceEq, Int.reduceGT, Int.reduceGE, Int.reduceToNat, ↓reduceIte, List.reduceReplicate, Nat.reduceAdd, Nat.reduceSub, Nat.reduceMul, Nat.reduceLT, Nat.reduceLeDiff, Nat.reduceBEq, Nat.reduceEqDiff, e10]
      refine ld_cella (T := 106) (cs := (staC c b r.cell (.slice aD c.depth.length cD) (.slice aT c.tide.length cT) (.slice aS c.swell.length cS) (.slice (some ⟨b1', 0, none⟩) c.tide.length c.tide.length) (.slice ac t2 cc) (.slice none 0 0))) (by simp) rfl ?_
      simp (config := { maxSteps := 4000000 }) only [↓sx0, ↓sx1, ↓sx2, ↓sx3, ↓sx4, ↓sx5, ↓sx6, sx0, sx1, sx2, sx3, sx4, sx5, sx6, tf45, ev3_hold, sxo, sxc, sxp, sxq, sxr, sxs, sxl, sxm, Int.reduceBEq, Int.reduceBNe, Int.reduceLT, Int.reduceLE, Int.reduceEq, Int.reduceGT, Int.reduceGE, Int.reduceToNat, ↓reduceIte, List.reduceReplicate, Nat.reduceAdd, Nat.reduceSub, Nat.reduceMul, Nat.reduceLT, Nat.reduceLeDiff, Nat.reduceBEq, Nat.reduceEqDiff]
      intro b3
      refine app_one (f := lpc) (l := ps) ((canT c b t2, some ⟨b2, 0, none⟩, c.depth.length, c.depth.length) : Lp Bool) (HImp.swap _ _ _ _) lpc_len lpc_one (by omega) fun a3 c3 => ?_
      rw [hpl]
      simp (config := { maxSteps := 4000000 }) only [↓sx0, ↓sx1, ↓sx2, ↓sx3, ↓sx4, ↓sx5, ↓sx6, sx0, sx1, sx2, sx3, sx4, sx5, sx6, tf45, ev3_hold, sxo, sxc, sxp, sxq, sxr, sxs, sxl, sxm, Int.reduceBEq, Int.reduceBNe, Int.reduceLT, Int.reduceLE, Int.reduceEq, Int.reduceGT, Int.reduceGE, Int.reduceToNat, ↓reduceIte, List.reduceReplicate, Nat.reduceAdd, Nat.reduceSub, Nat.reduceMul, Nat.reduceLT, Nat.reduceLeDiff, Nat.reduceBEq, Nat.reduceEqDiff]
      refine wr_cella (A := [_, _]) (cs := (staC c b r.cell (.slice aD c.depth.length cD) (.slice aT c.tide.length cT) (.slice aS c.swell.length cS) (.slice (some ⟨b1', 0, none⟩) c.tide.length c.tide.length) (.slice ac t2 cc) (.slice none 0 0))) rfl (by simp [staC]) ?_
      simp (config := { maxSteps := 4000000 }) only [↓sx0, ↓sx1, ↓sx2, ↓sx3, ↓sx4, ↓sx5, ↓sx6, sx0, sx1, sx2, sx3, sx4, sx5, sx6, tf45, ev3_hold, sxo, sxc, sxp, sxq, sxr, sxs, sxl, sxm, Int.reduceBEq, Int.reduceBNe, Int.reduceLT, Int.reduceLE, Int.reduceEq, Int.reduceGT, Int.reduceGE, Int.reduceToNat, ↓reduceIte, List.reduceReplicate, Nat.reduceAdd, Nat.reduceSub, Nat.reduceMul, Nat.reduceLT, Nat.reduceLeDiff, Nat.reduceBEq, Nat.reduceEqDiff, e9]
      exact ⟨(t2 + 1, some a3, c3), _, rfl, HImp.perm (List.Perm.cons _ (List.Perm.swap _ _ _)), ⟨by simp only []; omega, _, _ :: DF, hps2, fun h => (by cases h), rfl, List.mem_cons_of_mem _ hrd, fun p hp => by
        rcases List.mem_append.1 hp with h | h
        · exact List.mem_cons_of_mem _ (hDF p h)
        · rw [List.mem_singleton] at h
          subst h
          exact List.mem_cons_self⟩, by first | omega | (simp only []; omega)⟩
    have e10 : ((k : Int) < (c.depth.length : Int)) = True := eq_true (by omega)
    have e11 : wr (k + 1) = ((k + 1 : Nat) : Int) := (wrap_id (by omega)).trans (by omega)
    have hf := hfl hok' hg (show k < c.depth.length by omega) (show t2 < c.tide.length by omega)
    have hcn : canB c b t2 k = (decide (c.over k t2 (c.tlo t2) ≥ b.draught) && decide (c.swl t2 ≤ b.seas)) := rfl
    obtain ⟨fl, hfe⟩ : ∃ fl, decide (c.over k t2 (c.tlo t2) ≥ b.draught) = fl := ⟨_, rfl⟩
    obtain ⟨fm, hfm⟩ : ∃ fl, decide (c.over k t2 (c.thi t2) ≥ b.draught) = fl := ⟨_, rfl⟩
    rw [hfe, hfm] at hf
    rw [hfe] at hcn
    have hnx2 : ∀ x, x < c.depth.length → x ≠ k → (decide (x < k) && canB c b t2 x) = (decide (x < k + 1) && canB c b t2 x) := fun x hx hne => by
      have : decide (x < k) = decide (x < k + 1) := by
        rw [Bool.eq_iff_iff]
        simp only [decide_eq_true_eq]
        omega
      rw [this]
    cases fl with
    | false =>
      refine ⟨?_⟩
      simp (config := { maxSteps := 4000000 }) only [↓sx0, ↓sx1, ↓sx2, ↓sx3, ↓sx4, ↓sx5, ↓sx6, sx0, sx1, sx2, sx3, sx4, sx5, sx6, tf45, ev3_hold, sxo, sxc, sxp, sxq, sxr, sxs, sxl, sxm, Int.reduceBEq, Int.reduceBNe, Int.reduceLT, Int.reduceLE, Int.reduceEq, Int.reduceGT, Int.reduceGE, Int.reduceToNat, ↓reduceIte, List.reduceReplicate, Nat.reduceAdd, Nat.reduceSub, Nat.reduceMul, Nat.reduceLT, Nat.reduceLeDiff, Nat.reduceBEq, Nat.reduceEqDiff, e10, hf]
      refine ⟨by omega, _, rfl, ?_⟩
      refine wr_at (A := []) (f := b1) (u := false) rfl b1_len (by omega) (by omega) ?_
      simp (config := { maxSteps := 4000000 }) only [↓sx0, ↓sx1, ↓sx2, ↓sx3, ↓sx4, ↓sx5, ↓sx6, sx0, sx1, sx2, sx3, sx4, sx5, sx6, tf45, ev3_hold, sxo, sxc, sxp, sxq, sxr, sxs, sxl, sxm, Int.reduceBEq, Int.reduceBNe, Int.reduceLT, Int.reduceLE, Int.reduceEq, Int.reduceGT, Int.reduceGE, Int.reduceToNat, ↓reduceIte, List.reduceReplicate, Nat.reduceAdd, Nat.reduceSub, Nat.reduceMul, Nat.reduceLT, Nat.reduceLeDiff, Nat.reduceBEq, Nat.reduceEqDiff, e11]
      exact ⟨(k + 1, Y.set k false), _, rfl, HImp.refl _ _, ⟨by simp only []; omega, hY.set (by omega) (by rw [hcn]; simp) hnx2, rfl⟩, by simp only []; omega⟩
    | true =>
      refine ⟨?_⟩
      simp (config := { maxSteps := 4000000 }) only [↓sx0, ↓sx1, ↓sx2, ↓sx3, ↓sx4, ↓sx5, ↓sx6, sx0, sx1, sx2, sx3, sx4, sx5, sx6, tf45, ev3_hold, sxo, sxc, sxp, sxq, sxr, sxs, sxl, sxm, Int.reduceBEq, Int.reduceBNe, Int.reduceLT, Int.reduceLE, Int.reduceEq, Int.reduceGT, Int.reduceGE, Int.reduceToNat, ↓reduceIte, List.reduceReplicate, Nat.reduceAdd, Nat.reduceSub, Nat.reduceMul, Nat.reduceLT, Nat.reduceLeDiff, Nat.reduceBEq, Nat.reduceEqDiff, e10, hf]
      refine at_1 (hrS _) i1_len hsw rfl fun ad2 => ?_
      simp (config := { maxSteps := 4000000 }) only [↓sx0, ↓sx1, ↓sx2, ↓sx3, ↓sx4, ↓sx5, ↓sx6, sx0, sx1, sx2, sx3, sx4, sx5, sx6, tf45, ev3_hold, sxo, sxc, sxp, sxq, sxr, sxs, sxl, sxm, Int.reduceBEq, Int.reduceBNe, Int.reduceLT, Int.reduceLE, Int.reduceEq, Int.reduceGT, Int.reduceGE, Int.reduceToNat, ↓reduceIte, List.reduceReplicate, Nat.reduceAdd, Nat.reduceSub, Nat.reduceMul, Nat.reduceLT, Nat.reduceLeDiff, Nat.reduceBEq, Nat.reduceEqDiff]
      refine ⟨by omega, by omega, _, rfl, ?_⟩
      refine wr_at (A := []) (f := b1) (u := decide (c.swl t2 ≤ b.seas)) rfl b1_len (by omega) (by omega) ?_
      simp (config := { maxSteps := 4000000 }) only [↓sx0, ↓sx1, ↓sx2, ↓sx3, ↓sx4, ↓sx5, ↓sx6, sx0, sx1, sx2, sx3, sx4, sx5, sx6, tf45, ev3_hold, sxo, sxc, sxp, sxq, sxr, sxs, sxl, sxm, Int.reduceBEq, Int.reduceBNe, Int.reduceLT, Int.reduceLE, Int.reduceEq, Int.reduceGT, Int.reduceGE, Int.reduceToNat, ↓reduceIte, List.reduceReplicate, Nat.reduceAdd, Nat.reduceSub, Nat.reduceMul, Nat.reduceLT, Nat.reduceLeDiff, Nat.reduceBEq, Nat.reduceEqDiff, e11]
      exact ⟨(k + 1, Y.set k (decide (c.swl t2 ≤ b.seas))), _, rfl, HImp.refl _ _, ⟨by simp only []; omega, hY.set (by omega) (by rw [hcn]; simp) hnx2, rfl⟩, by simp only []; omega⟩
  have e7 : ((j : Int) < (S.length : Int)) = True := eq_true (by omega)
  have e2 : wr (j + 1) = ((j + 1 : Nat) : Int) := (wrap_id (by omega)).trans (by omega)
  have hjl : j < S.length := by omega
  have hu := List.getElem?_eq_getElem hjl
  have htk : S.take (j + 1) = S.take j ++ [S[j]] := (List.take_append_getElem hjl).symm
  have hp := hS1 j _ hu
  obtain ⟨p, hpe⟩ : ∃ p, S[j] = p := ⟨_, rfl⟩
  rw [hpe] at hu hp htk
  obtain ⟨lo, hi⟩ := p
  obtain ⟨LO, rfl⟩ : ∃ L : Nat, lo = L := ⟨lo.toNat, by have := hp.1; simp only [] at this; omega⟩
  obtain ⟨HI, rfl⟩ : ∃ L : Nat, hi = L := ⟨hi.toNat, by have := hp.1; have := hp.2.1; simp only [] at *; omega⟩
  have hp1 : LO ≤ HI ∧ HI < c.tide.length := by have h1 := hp.2.1; have h2 := hp.2.2.1; simp only [] at h1 h2; omega
  refine ⟨?_⟩
  simp (config := { maxSteps := 4000000 }) only [↓sx0, ↓sx1, ↓sx2, ↓sx3, ↓sx4, ↓sx5, ↓sx6, sx0, sx1, sx2, sx3, sx4, sx5, sx6, tf45, ev3_hold, sxo, sxc, sxp, sxq, sxr, sxs, sxl, sxm, Int.reduceBEq, Int.reduceBNe, Int.reduceLT, Int.reduceLE, Int.reduceEq, Int.reduceGT, Int.reduceGE, Int.reduceToNat, ↓reduceIte, List.reduceReplicate, Nat.reduceAdd, Nat.reduceSub, Nat.reduceMul, Nat.reduceLT, Nat.reduceLeDiff, Nat.reduceBEq, Nat.reduceEqDiff, e7]
  refine amid (at_n (hrx _ (by simp +contextual)) spc_len (by omega) hu fun ad1 => ?_)
  unfold spc
  simp (config := { maxSteps := 4000000 }) only [↓sx0, ↓sx1, ↓sx2, ↓sx3, ↓sx4, ↓sx5, ↓sx6, sx0, sx1, sx2, sx3, sx4, sx5, sx6, tf45, ev3_hold, sxo, sxc, sxp, sxq, sxr, sxs, sxl, sxm, Int.reduceBEq, Int.reduceBNe, Int.reduceLT, Int.reduceLE, Int.reduceEq, Int.reduceGT, Int.reduceGE, Int.reduceToNat, ↓reduceIte, List.reduceReplicate, Nat.reduceAdd, Nat.reduceSub, Nat.reduceMul, Nat.reduceLT, Nat.reduceLeDiff, Nat.reduceBEq, Nat.reduceEqDiff]
  intro bw
  refine wr_cell (A := []) rfl (by simp) ?_
  simp (config := { maxSteps := 4000000 }) only [↓sx0, ↓sx1, ↓sx2, ↓sx3, ↓sx4, ↓sx5, ↓sx6, sx0, sx1, sx2, sx3, sx4, sx5, sx6, tf45, ev3_hold, sxo, sxc, sxp, sxq, sxr, sxs, sxl, sxm, Int.reduceBEq, Int.reduceBNe, Int.reduceLT, Int.reduceLE, Int.reduceEq, Int.reduceGT, Int.reduceGE, Int.reduceToNat, ↓reduceIte, List.reduceReplicate, Nat.reduceAdd, Nat.reduceSub, Nat.reduceMul, Nat.reduceLT, Nat.reduceLeDiff, Nat.reduceBEq, Nat.reduceEqDiff, List.take, List.drop, List.length_cons, List.length_nil, List.nil_append]
  refine ld_cella (T := 54) (cs := [I LO, I HI]) (by simp) rfl ?_
  simp (config := { maxSteps := 4000000 }) only [↓sx0, ↓sx1, ↓sx2, ↓sx3, ↓sx4, ↓sx5, ↓sx6, sx0, sx1, sx2, sx3, sx4, sx5, sx6, tf45, ev3_hold, sxo, sxc, sxp, sxq, sxr, sxs, sxl, sxm, Int.reduceBEq, Int.reduceBNe, Int.reduceLT, Int.reduceLE, Int.reduceEq, Int.reduceGT, Int.reduceGE, Int.reduceToNat, ↓reduceIte, List.reduceReplicate, Nat.reduceAdd, Nat.reduceSub, Nat.reduceMul, Nat.reduceLT, Nat.reduceLeDiff, Nat.reduceBEq, Nat.reduceEqDiff]
  refine loop_constH (HO.row (.slice (some ⟨b1', 0, none⟩) c.tide.length c.tide.length) 4 1 (bools X) :: HO.cells bs 106 (staC c b r.cell (.slice aD c.depth.length cD) (.slice aT c.tide.length cT) (.slice aS c.swell.length cS) (.slice (some ⟨b1', 0, none⟩) c.tide.length c.tide.length) (.slice none 0 0) (.slice none 0 0)) :: HO.cells bw 54 [I LO, I HI] :: N2) (HImp.perm (List.Perm.trans (List.Perm.swap _ _ _) (List.Perm.cons _ (List.Perm.swap _ _ _)))) [(23, 23), (95, 114)] (fun q : Nat × List Bool => [(23, I q.1)])
    (fun q H1 => LO ≤ q.1 ∧ q.1 ≤ HI + 1 ∧ isF q.2 c.tide.length (fun u => ((S.take j).any (inW u) || (decide (LO ≤ u) && decide (u < q.1))) && decide (c.swl u ≤ b.seas)) ∧ H1 = HO.row (.slice (some ⟨b1', 0, none⟩) c.tide.length c.tide.length) 4 1 (bools q.2) :: HO.cells bs 106 (staC c b r.cell (.slice aD c.depth.length cD) (.slice aT c.tide.length cT) (.slice aS c.swell.length cS) (.slice (some ⟨b1', 0, none⟩) c.tide.length c.tide.length) (.slice none 0 0) (.slice none 0 0)) :: HO.cells bw 54 [I LO, I HI] :: N2) (fun q => HI + 1 - q.1) (LO, X) ?_ ⟨Nat.le_refl _, by omega, hX.congr fun u _ => by
    have : (decide (LO ≤ u) && decide (u < LO)) = false := by
      rw [Bool.and_eq_false_iff]
      simp only [decide_eq_false_iff_not]
      omega
    simp only [this, Bool.or_false], rfl⟩ ?_
  · simp (config := { maxSteps := 4000000 }) only [↓sx0, ↓sx1, ↓sx2, ↓sx3, ↓sx4, ↓sx5, ↓sx6, sx0, sx1, sx2, sx3, sx4, sx5, sx6, tf45, ev3_hold, sxo, sxc, sxp, sxq, sxr, sxs, sxl, sxm, Int.reduceBEq, Int.reduceBNe, Int.reduceLT, Int.reduceLE, Int.reduceEq, Int.reduceGT, Int.reduceGE, Int.reduceToNat, ↓reduceIte, List.reduceReplicate, Nat.reduceAdd, Nat.reduceSub, Nat.reduceMul, Nat.reduceLT, Nat.reduceLeDiff, Nat.reduceBEq, Nat.reduceEqDiff]
    try simp
  rintro ⟨u, Y⟩ H2 g2 hinv2
  simp only [] at hinv2
  obtain ⟨hu1, hu2, hY, rfl⟩ := hinv2
  have hYl := hY.1
  by_cases huh : u = HI + 1
  · have e8 : ((u : Int) ≤ (HI : Int)) = False := eq_false (by omega)
    refine ⟨?_⟩
    simp (config := { maxSteps := 4000000 }) only [↓sx0, ↓sx1, ↓sx2, ↓sx3, ↓sx4, ↓sx5, ↓sx6, sx0, sx1, sx2, sx3, sx4, sx5, sx6, tf45, ev3_hold, sxo, sxc, sxp, sxq, sxr, sxs, sxl, sxm, Int.reduceBEq, Int.reduceBNe, Int.reduceLT, Int.reduceLE, Int.reduceEq, Int.reduceGT, Int.reduceGE, Int.reduceToNat, ↓reduceIte, List.reduceReplicate, Nat.reduceAdd, Nat.reduceSub, Nat.reduceMul, Nat.reduceLT, Nat.reduceLeDiff, Nat.reduceBEq, Nat.reduceEqDiff]
    refine ld_cella (T := 54) (cs := [I LO, I HI]) (by simp) rfl ?_
    simp (config := { maxSteps := 4000000 }) only [↓sx0, ↓sx1, ↓sx2, ↓sx3, ↓sx4, ↓sx5, ↓sx6, sx0, sx1, sx2, sx3, sx4, sx5, sx6, tf45, ev3_hold, sxo, sxc, sxp, sxq, sxr, sxs, sxl, sxm, Int.reduceBEq, Int.reduceBNe, Int.reduceLT, Int.reduceLE, Int.reduceEq, Int.reduceGT, Int.reduceGE, Int.reduceToNat, ↓reduceIte, List.reduceReplicate, Nat.reduceAdd, Nat.reduceSub, Nat.reduceMul, Nat.reduceLT, Nat.reduceLeDiff, Nat.reduceBEq, Nat.reduceEqDiff, e8, e2]
    refine ⟨(j + 1, Y), _, rfl, HImp.sub (((List.Sublist.refl N2).cons _).cons_cons _ |>.cons_cons _), ⟨by simp only []; omega, hY.congr fun x hx => ?_, rfl⟩, by simp only []; omega⟩
    simp only []
    rw [htk, List.any_append, List.any_cons, List.any_nil, Bool.or_false]
    congr 2
    unfold inW
    rw [Bool.eq_iff_iff]
    simp only [Bool.and_eq_true, decide_eq_true_eq]
    omega
  have e8 : ((u : Int) ≤ (HI : Int)) = True := eq_true (by omega)
  have e9 : wr (u + 1) = ((u + 1 : Nat) : Int) := (wrap_id (by omega)).trans (by omega)
  have hsw := getD_at (show u < c.swell.length by omega) 0
  refine ⟨?_⟩
  simp (config := { maxSteps := 4000000 }) only [↓sx0, ↓sx1, ↓sx2, ↓sx3, ↓sx4, ↓sx5, ↓sx6, sx0, sx1, sx2, sx3, sx4, sx5, sx6, tf45, ev3_hold, sxo, sxc, sxp, sxq, sxr, sxs, sxl, sxm, Int.reduceBEq, Int.reduceBNe, Int.reduceLT, Int.reduceLE, Int.reduceEq, Int.reduceGT, Int.reduceGE, Int.reduceToNat, ↓reduceIte, List.reduceReplicate, Nat.reduceAdd, Nat.reduceSub, Nat.reduceMul, Nat.reduceLT, Nat.reduceLeDiff, Nat.reduceBEq, Nat.reduceEqDiff]
  refine ld_cella (T := 54) (cs := [I LO, I HI]) (by simp) rfl ?_
  simp (config := { maxSteps := 4000000 }) only [↓sx0, ↓sx1, ↓sx2, ↓sx3, ↓sx4, ↓sx5, ↓sx6, sx0, sx1, sx2, sx3, sx4, sx5, sx6, tf45, ev3_hold, sxo, sxc, sxp, sxq, sxr, sxs, sxl, sxm, Int.reduceBEq, Int.reduceBNe, Int.reduceLT, Int.reduceLE, Int.reduceEq, Int.reduceGT, Int.reduceGE, Int.reduceToNat, ↓reduceIte, List.reduceReplicate, Nat.reduceAdd, Nat.reduceSub, Nat.reduceMul, Nat.reduceLT, Nat.reduceLeDiff, Nat.reduceBEq, Nat.reduceEqDiff, e8]
  refine ld_cella (T := 106) (cs := staC c b r.cell (.slice aD c.depth.length cD) (.slice aT c.tide.length cT) (.slice aS c.swell.length cS) (.slice (some ⟨b1', 0, none⟩) c.tide.length c.tide.length) (.slice none 0 0) (.slice none 0 0)) (by simp) rfl ?_
  simp (config := { maxSteps := 4000000 }) only [↓sx0, ↓sx1, ↓sx2, ↓sx3, ↓sx4, ↓sx5, ↓sx6, sx0, sx1, sx2, sx3, sx4, sx5, sx6, tf45, ev3_hold, sxo, sxc, sxp, sxq, sxr, sxs, sxl, sxm, Int.reduceBEq, Int.reduceBNe, Int.reduceLT, Int.reduceLE, Int.reduceEq, Int.reduceGT, Int.reduceGE, Int.reduceToNat, ↓reduceIte, List.reduceReplicate, Nat.reduceAdd, Nat.reduceSub, Nat.reduceMul, Nat.reduceLT, Nat.reduceLeDiff, Nat.reduceBEq, Nat.reduceEqDiff]
  refine at_1 (hrS _) i1_len hsw rfl fun ad2 => ?_
  simp (config := { maxSteps := 4000000 }) only [↓sx0, ↓sx1, ↓sx2, ↓sx3, ↓sx4, ↓sx5, ↓sx6, sx0, sx1, sx2, sx3, sx4, sx5, sx6, tf45, ev3_hold, sxo, sxc, sxp, sxq, sxr, sxs, sxl, sxm, Int.reduceBEq, Int.reduceBNe, Int.reduceLT, Int.reduceLE, Int.reduceEq, Int.reduceGT, Int.reduceGE, Int.reduceToNat, ↓reduceIte, List.reduceReplicate, Nat.reduceAdd, Nat.reduceSub, Nat.reduceMul, Nat.reduceLT, Nat.reduceLeDiff, Nat.reduceBEq, Nat.reduceEqDiff]
  refine ⟨by omega, by omega, _, rfl, ?_⟩
  refine wr_at (A := []) (f := b1) (u := decide (c.swl u ≤ b.seas)) rfl b1_len (by omega) (by omega) ?_
  simp (config := { maxSteps := 4000000 }) only [↓sx0, ↓sx1, ↓sx2, ↓sx3, ↓sx4, ↓sx5, ↓sx6, sx0, sx1, sx2, sx3, sx4, sx5, sx6, tf45, ev3_hold, sxo, sxc, sxp, sxq, sxr, sxs, sxl, sxm, Int.reduceBEq, Int.reduceBNe, Int.reduceLT, Int.reduceLE, Int.reduceEq, Int.reduceGT, Int.reduceGE, Int.reduceToNat, ↓reduceIte, List.reduceReplicate, Nat.reduceAdd, Nat.reduceSub, Nat.reduceMul, Nat.reduceLT, Nat.reduceLeDiff, Nat.reduceBEq, Nat.reduceEqDiff, e9]
  exact ⟨(u + 1, Y.set u (decide (c.swl u ≤ b.seas))), _, rfl, HImp.refl _ _, ⟨by simp only []; omega, by simp only []; omega, hY.set (by omega) (by simp only [decide_eq_true (show LO ≤ u by omega), decide_eq_true (show u < u + 1 by omega), Bool.and_self, Bool.or_true, Bool.true_and]) (fun x hx hne => by
    have : decide (x < u) = decide (x < u + 1) := by
      rw [Bool.eq_iff_iff]
      simp only [decide_eq_true_eq]
      omega
    simp only [this]), rfl⟩, by simp only []; omega⟩
end Go.Proofs.YtcnlbnccbnapbaaDoor

namespace Go.Proofs.YtcnlbnccbnapbaaDoor
open Go.RowKit Go.SX
set_option maxRecDepth 10000
set_option maxHeartbeats 0
set_option linter.unusedSimpArgs false
set_option linter.unusedVariables false
def slq (q : Option Addr × Nat × Nat) : List Value := [.slice q.1 q.2.1 q.2.2]
theorem slq_len (q : Option Addr × Nat × Nat) : (slq q).length = 1 := rfl
theorem LLOk.at {α : Type} {f : α → List Value} {sz : Nat} {w : World} {v : Value} {cs : List (List α)} (h : LLOk f sz w v cs) : ∃ vs : List (Option Addr × Nat × Nat), vs.length = cs.length ∧ Sl w v 1 (cat slq vs) ∧ ∀ (i : Nat) l, cs[i]? = some l → ∃ q, vs[i]? = some q ∧ Sl w (.slice q.1 q.2.1 q.2.2) sz (cat f l) := by
  obtain ⟨ps, rfl, h2, h3⟩ := h
  have he : cat lpc ps = cat slq (ps.map Prod.snd) := by
    unfold cat
    rw [List.flatMap_map]
    rfl
  rw [he] at h2
  refine ⟨ps.map Prod.snd, by rw [List.length_map, List.length_map], h2, fun i l hi => ?_⟩
  rw [List.getElem?_map] at hi
  obtain ⟨p, hp, rfl⟩ := Option.map_eq_some_iff.1 hi
  exact ⟨p.2, by rw [List.getElem?_map, hp]; rfl, h3 p (List.mem_of_getElem? hp)⟩
def nowB (c : Cht) (b : Cls) (k t : Nat) : Nat → Nat → Bool
  | 0, x => decide (x = k)
  | i + 1, x => canB c b (t + i + 1) x && (List.range c.depth.length).any fun y => nowB c b k t i y && (nbL c.W c.H y).contains x
def outV (c : Cht) (b : Cls) (k t : Nat) : Nat → Nat → Int
  | 0, _ => -1
  | m + 1, x => if outV c b k t m x < 0 ∧ nowB c b k t m x = true then ((t + m : Nat) : Int) else outV c b k t m x
noncomputable def reachL (c : Cht) (b : Cls) (r : Rmp) (t : Nat) : List Int := if rdyB c b r t then (List.range c.depth.length).map (outV c b r.cell.toNat t (c.tide.length - t)) else List.replicate c.depth.length (-1)
def isG (X : List Int) (n : Nat) (p : Nat → Int) : Prop := X.length = n ∧ ∀ u, u < n → X.getD u 0 = p u
theorem isG.eq {X : List Int} {n : Nat} {p : Nat → Int} (h : isG X n p) : X = (List.range n).map p := by
  refine List.ext_getElem? fun i => ?_
  rw [List.getElem?_map]
  have h1 := h.1
  by_cases hi : i < n
  · rw [List.getElem?_range hi]
    have := h.2 i hi
    rw [List.getD_eq_getElem?_getD, List.getElem?_eq_getElem (by omega)] at this
    rw [List.getElem?_eq_getElem (by omega)]
    simpa using this
  · have e1 : X[i]? = none := List.getElem?_eq_none (by omega)
    have e2 : (List.range n)[i]? = none := List.getElem?_eq_none (by rw [List.length_range]; omega)
    rw [e1, e2]
    rfl
theorem isG.set {X : List Int} {n : Nat} {p q : Nat → Int} {k : Nat} (h : isG X n p) {x : Int} (hk : k < n) (hx : x = q k) (hq : ∀ u, u < n → u ≠ k → p u = q u) : isG (X.set k x) n q := by
  refine ⟨by rw [List.length_set]; exact h.1, fun u hu => ?_⟩
  rw [List.getD_eq_getElem?_getD, List.getElem?_set]
  by_cases e : k = u
  · subst e
    rw [if_pos rfl, if_pos (by rw [h.1]; exact hk), Option.getD_some, hx]
  · rw [if_neg e, ← List.getD_eq_getElem?_getD, h.2 u hu]
    exact hq u hu fun e' => e e'.symm
theorem isG.congr {X : List Int} {n : Nat} {p q : Nat → Int} (h : isG X n p) (hq : ∀ u, u < n → p u = q u) : isG X n q := ⟨h.1, fun u hu => (h.2 u hu).trans (hq u hu)⟩
theorem isG.rep (n : Nat) (x : Int) : isG (List.replicate n x) n fun _ => x := ⟨List.length_replicate, fun u hu => by rw [List.getD_eq_getElem?_getD, List.getElem?_replicate, if_pos hu]; rfl⟩
def nextB (c : Cht) (b : Cls) (t : Nat) (now : Nat → Bool) (y j x : Nat) : Bool := canB c b t x && ((List.range y).any (fun z => now z && (nbL c.W c.H z).contains x) || (now y && ((nbL c.W c.H y).take j).contains x))
theorem nextB_zero (c : Cht) (b : Cls) (t : Nat) (now : Nat → Bool) (x : Nat) : nextB c b t now 0 0 x = false := by
  unfold nextB
  simp
theorem nextB_row (c : Cht) (b : Cls) (t : Nat) (now : Nat → Bool) (y x : Nat) : nextB c b t now y (nbL c.W c.H y).length x = nextB c b t now (y + 1) 0 x := by
  unfold nextB
  rw [List.range_succ, List.any_append, List.take_of_length_le (Nat.le_refl _)]
  simp
theorem nextB_step (c : Cht) (b : Cls) (t : Nat) (now : Nat → Bool) {y j m : Nat} (h : (nbL c.W c.H y)[j]? = some m) (x : Nat) : nextB c b t now y (j + 1) x = (nextB c b t now y j x || (decide (x = m) && (now y && canB c b t x))) := by
  unfold nextB
  have : (nbL c.W c.H y).take (j + 1) = (nbL c.W c.H y).take j ++ [m] := by rw [List.take_add_one, h]; rfl
  rw [this, List.contains_append]
  have h2 : ([m] : List Nat).contains x = decide (x = m) := by
    rw [Bool.eq_iff_iff]
    simp
  rw [h2]
  cases canB c b t x <;> cases now y <;> simp [Bool.or_assoc]
theorem nextB_end (c : Cht) (b : Cls) (k t i x : Nat) : nextB c b (t + i + 1) (nowB c b k t i) c.depth.length 0 x = nowB c b k t (i + 1) x := by
  unfold nextB
  rw [nowB]
  simp
end Go.Proofs.YtcnlbnccbnapbaaDoor

