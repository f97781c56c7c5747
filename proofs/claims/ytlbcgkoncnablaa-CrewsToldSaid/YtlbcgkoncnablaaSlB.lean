/- A part of a proof: the symbolic walk and what it shows of single functions. -/
import Derived.Test.YtlbcgkoncnablaaSkV
set_option linter.all false
namespace Go.Proofs.Ytlbcgkoncnablaa
open Go.RowKit Go.SX
set_option maxRecDepth 10000
set_option maxHeartbeats 0
set_option linter.unusedSimpArgs false
set_option linter.unusedVariables false

/-! ### One page more -/

theorem pgRun_snoc (tick : Int) (p : Pg) : ∀ (l : List Pg) (s : List Pr), (∀ q ∈ l, ¬ q.1 > tick) → ¬ p.1 > tick → pgRun tick (l ++ [p]) s = pgStep (pgRun tick l s) p
  | [], s, _, hp => by
    show (if p.1 > tick then s else pgStep s p) = pgStep s p
    rw [if_neg hp]
  | q :: r, s, hl, hp => by
    show (if q.1 > tick then s else pgRun tick (r ++ [p]) (pgStep s q)) = pgStep (if q.1 > tick then s else pgRun tick r (pgStep s q)) p
    rw [if_neg (hl q List.mem_cons_self), if_neg (hl q List.mem_cons_self)]
    exact pgRun_snoc tick p r _ (fun x hx => hl x (List.mem_cons_of_mem _ hx)) hp

theorem told {hands : Int} {l : List Pg} {pt ph pk : Int} (h1 : pgOk hands (-200) l = true) (h2 : pgOk hands (-200) (l ++ [(pt, ph, pk)]) = true) (k : Nat) (hk : k < hands.toNat) : ∃ x y, (ansL hands 400 l)[k]? = some x ∧ (ansL hands 400 (l ++ [(pt, ph, pk)]))[k]? = some y ∧
    (pk = 1 ∨ pk = 2 ∨ pk = 3) ∧ ((k : Int) ≠ ph → x = y) ∧ ((k : Int) = ph → pk = 1 → y = 0) ∧ ((k : Int) = ph → pk = 2 → x = 1 → y = 1) ∧ ((k : Int) = ph → pk = 3 → x = 2 → y = 2) := by
  have ht := pgOk_tick h2
  have hp := ht (pt, ph, pk) (by simp)
  have hin := pgOk_in h2 (pt, ph, pk) (by simp)
  obtain ⟨i1, i2, i3, i4⟩ := hin
  simp only at hp i1 i2 i3 i4
  have hr := pgRun_snoc 400 (pt, ph, pk) l (pgNone hands) (fun q hq => by have := ht q (List.mem_append_left _ hq); omega) (by simp only; omega)
  unfold ansL
  rw [hr]
  have hlen : (pgRun 400 l (pgNone hands)).length = hands.toNat := by rw [pgRun_len]; exact List.length_replicate
  generalize pgRun 400 l (pgNone hands) = s at hlen
  have hks : k < s.length := by omega
  have hx := List.getElem?_eq_getElem hks
  generalize s[k] = x at hx
  obtain ⟨xc, xl, xa⟩ := x
  obtain ⟨j, rfl⟩ : ∃ j : Nat, ph = j := ⟨ph.toNat, by omega⟩
  by_cases e : j = k
  · subst e
    by_cases c1 : pk = 1
    · refine ⟨xa, 0, by rw [List.getElem?_map, hx]; rfl, ?_, by omega, by omega, fun _ _ => rfl, by omega, by omega⟩
      rw [show pgStep s (pt, (j : Int), pk) = s.set j (true, pt, 0) from if_pos c1, List.getElem?_map, List.getElem?_set_self hks]
      rfl
    · have hst : pgStep s (pt, (j : Int), pk) = if xc = true then s.set j (xc, xl, pgAns pk) else s := by
        unfold pgStep
        rw [if_neg c1]
        simp only [Int.toNat_natCast, hx]
      cases xc with
      | true =>
        refine ⟨xa, pgAns pk, by rw [List.getElem?_map, hx]; rfl, ?_, by omega, by omega, by omega, fun _ h _ => by rw [h]; rfl, fun _ h _ => by rw [h]; rfl⟩
        rw [hst, if_pos rfl, List.getElem?_map, List.getElem?_set_self hks]
        rfl
      | false =>
        refine ⟨xa, xa, by rw [List.getElem?_map, hx]; rfl, ?_, by omega, by omega, by omega, fun _ _ h => h, fun _ _ h => h⟩
        rw [hst, if_neg (by decide), List.getElem?_map, hx]
        rfl
  · refine ⟨xa, xa, by rw [List.getElem?_map, hx]; rfl, ?_, by omega, fun _ => rfl, by omega, by omega, by omega⟩
    have : (pgStep s (pt, (j : Int), pk))[k]? = s[k]? := by
      unfold pgStep
      simp only [Int.toNat_natCast]
      split
      · rw [List.getElem?_set_ne e]
      · split
        · split
          · rw [List.getElem?_set_ne e]
          · rfl
        · rfl
    rw [List.getElem?_map, this, hx]
    rfl

theorem ansL_len (hands tick : Int) (l : List Pg) : (ansL hands tick l).length = hands.toNat := by
  unfold ansL
  rw [List.length_map, pgRun_len]
  exact List.length_replicate

def pl7_3 : Plan := (ones [1] (.ld 3 (.pre 0 (.pre 4 (ones [0] (.kl 2 (ones [4] (.kl 5 (ones [6] .fin)))))))))
def pl7 : List (Nat × Plan) := [(3, pl7_3)]
theorem pl7_lk : (lkO 3 pl7 = some pl7_3) ∧ (lkO 14 pl7 = none) := ⟨rfl, rfl⟩
theorem crewsTold_fn (w : World) (hands : Int) (v : Value) (l : List Pg) (hs : Sl w v 3 (cat pgc l)) (pt ph pk : Int) : SX.Fn Try.prog 7 [I hands, v, .agg #[I pt, I ph, I pk]] w (fun _ => False) fun r N => r = .bool true := by
  obtain ⟨a, n, c, rfl⟩ := hs.shape
  have hn := hs.le pgc_len (by omega)
  have hlk := pl7_lk
  have hbad : ∀ H w', Hp ⟨w, fun _ => False⟩ H w' → SX.Fn Try.prog 17 [] w' (fun _ => False) fun r N => r = .bool true := fun H w' _ => works_fn w'
  by_cases c0 : pagedN hands 400 l = 0
  case neg =>
    have e0 : (pagedN hands 400 l = 0) = False := eq_false c0
    refine walk [] pl7 (det0_ok _ _) Try.func7 rfl Try.ntmps7 res7 (by kernel_rfl) no_facts ?_
    simp (config := { maxSteps := 4000000 }) only [↓sx0, ↓sx1, ↓sx2, ↓sx3, ↓sx4, ↓sx5, ↓sx6, sx0, sx1, sx2, sx3, sx4, sx5, sx6, tf7, ev3_hold, sxo, sxc, sxp, sxq, sxr, sxs, sxl, sxm, Int.reduceBEq, Int.reduceBNe, Int.reduceLT, Int.reduceLE, Int.reduceEq, Int.reduceGT, Int.reduceGE, Int.reduceToNat, ↓reduceIte, List.reduceReplicate, Nat.reduceAdd, Nat.reduceSub, Nat.reduceMul, Nat.reduceLT, Nat.reduceLeDiff, Nat.reduceBEq, Nat.reduceEqDiff, det0]
    refine CallOb.pureH (fun w' hp' => rcheckP_fn w' hands 400 _ l (hs.hp (fun _ _ => id) hp')) ?_
    rintro r N rfl
    refine ⟨?_⟩
    simp (config := { maxSteps := 4000000 }) only [↓sx0, ↓sx1, ↓sx2, ↓sx3, ↓sx4, ↓sx5, ↓sx6, sx0, sx1, sx2, sx3, sx4, sx5, sx6, tf7, ev3_hold, sxo, sxc, sxp, sxq, sxr, sxs, sxl, sxm, Int.reduceBEq, Int.reduceBNe, Int.reduceLT, Int.reduceLE, Int.reduceEq, Int.reduceGT, Int.reduceGE, Int.reduceToNat, ↓reduceIte, List.reduceReplicate, Nat.reduceAdd, Nat.reduceSub, Nat.reduceMul, Nat.reduceLT, Nat.reduceLeDiff, Nat.reduceBEq, Nat.reduceEqDiff, e0, det0]
    refine CallOb.pureH (fun w' hp' => works_fn w') ?_
    rintro r N rfl
    refine ⟨?_⟩
    simp (config := { maxSteps := 4000000 }) only [↓sx0, ↓sx1, ↓sx2, ↓sx3, ↓sx4, ↓sx5, ↓sx6, sx0, sx1, sx2, sx3, sx4, sx5, sx6, tf7, ev3_hold, sxo, sxc, sxp, sxq, sxr, sxs, sxl, sxm, Int.reduceBEq, Int.reduceBNe, Int.reduceLT, Int.reduceLE, Int.reduceEq, Int.reduceGT, Int.reduceGE, Int.reduceToNat, ↓reduceIte, List.reduceReplicate, Nat.reduceAdd, Nat.reduceSub, Nat.reduceMul, Nat.reduceLT, Nat.reduceLeDiff, Nat.reduceBEq, Nat.reduceEqDiff]
  have e0 : (pagedN hands 400 l = 0) = True := eq_true c0
  by_cases c1 : (n : Int) ≥ 200
  · have e1 : ((n : Int) ≥ 200) = True := eq_true c1
    refine walk [] pl7 (det0_ok _ _) Try.func7 rfl Try.ntmps7 res7 (by kernel_rfl) no_facts ?_
    simp (config := { maxSteps := 4000000 }) only [↓sx0, ↓sx1, ↓sx2, ↓sx3, ↓sx4, ↓sx5, ↓sx6, sx0, sx1, sx2, sx3, sx4, sx5, sx6, tf7, ev3_hold, sxo, sxc, sxp, sxq, sxr, sxs, sxl, sxm, Int.reduceBEq, Int.reduceBNe, Int.reduceLT, Int.reduceLE, Int.reduceEq, Int.reduceGT, Int.reduceGE, Int.reduceToNat, ↓reduceIte, List.reduceReplicate, Nat.reduceAdd, Nat.reduceSub, Nat.reduceMul, Nat.reduceLT, Nat.reduceLeDiff, Nat.reduceBEq, Nat.reduceEqDiff, det0]
    refine CallOb.pureH (fun w' hp' => rcheckP_fn w' hands 400 _ l (hs.hp (fun _ _ => id) hp')) ?_
    rintro r N rfl
    refine ⟨?_⟩
    simp (config := { maxSteps := 4000000 }) only [↓sx0, ↓sx1, ↓sx2, ↓sx3, ↓sx4, ↓sx5, ↓sx6, sx0, sx1, sx2, sx3, sx4, sx5, sx6, tf7, ev3_hold, sxo, sxc, sxp, sxq, sxr, sxs, sxl, sxm, Int.reduceBEq, Int.reduceBNe, Int.reduceLT, Int.reduceLE, Int.reduceEq, Int.reduceGT, Int.reduceGE, Int.reduceToNat, ↓reduceIte, List.reduceReplicate, Nat.reduceAdd, Nat.reduceSub, Nat.reduceMul, Nat.reduceLT, Nat.reduceLeDiff, Nat.reduceBEq, Nat.reduceEqDiff, e0, e1, det0]
    refine CallOb.pureH (fun w' hp' => works_fn w') ?_
    rintro r N rfl
    refine ⟨?_⟩
    simp (config := { maxSteps := 4000000 }) only [↓sx0, ↓sx1, ↓sx2, ↓sx3, ↓sx4, ↓sx5, ↓sx6, sx0, sx1, sx2, sx3, sx4, sx5, sx6, tf7, ev3_hold, sxo, sxc, sxp, sxq, sxr, sxs, sxl, sxm, Int.reduceBEq, Int.reduceBNe, Int.reduceLT, Int.reduceLE, Int.reduceEq, Int.reduceGT, Int.reduceGE, Int.reduceToNat, ↓reduceIte, List.reduceReplicate, Nat.reduceAdd, Nat.reduceSub, Nat.reduceMul, Nat.reduceLT, Nat.reduceLeDiff, Nat.reduceBEq, Nat.reduceEqDiff]
  have e1 : ((n : Int) ≥ 200) = False := eq_false c1
  refine walk [] pl7 (det0_ok _ _) Try.func7 rfl Try.ntmps7 res7 (by kernel_rfl) no_facts ?_
  simp (config := { maxSteps := 4000000 }) only [↓sx0, ↓sx1, ↓sx2, ↓sx3, ↓sx4, ↓sx5, ↓sx6, sx0, sx1, sx2, sx3, sx4, sx5, sx6, tf7, ev3_hold, sxo, sxc, sxp, sxq, sxr, sxs, sxl, sxm, Int.reduceBEq, Int.reduceBNe, Int.reduceLT, Int.reduceLE, Int.reduceEq, Int.reduceGT, Int.reduceGE, Int.reduceToNat, ↓reduceIte, List.reduceReplicate, Nat.reduceAdd, Nat.reduceSub, Nat.reduceMul, Nat.reduceLT, Nat.reduceLeDiff, Nat.reduceBEq, Nat.reduceEqDiff, det0]
  refine CallOb.pureH (fun w' hp' => rcheckP_fn w' hands 400 _ l (hs.hp (fun _ _ => id) hp')) ?_
  rintro r N rfl
  refine ⟨?_⟩
  simp (config := { maxSteps := 4000000 }) only [↓sx0, ↓sx1, ↓sx2, ↓sx3, ↓sx4, ↓sx5, ↓sx6, sx0, sx1, sx2, sx3, sx4, sx5, sx6, tf7, ev3_hold, sxo, sxc, sxp, sxq, sxr, sxs, sxl, sxm, Int.reduceBEq, Int.reduceBNe, Int.reduceLT, Int.reduceLE, Int.reduceEq, Int.reduceGT, Int.reduceGE, Int.reduceToNat, ↓reduceIte, List.reduceReplicate, Nat.reduceAdd, Nat.reduceSub, Nat.reduceMul, Nat.reduceLT, Nat.reduceLeDiff, Nat.reduceBEq, Nat.reduceEqDiff, e0, e1, det0, pl7_lk, pl7_3]
  intro b0
  refine app_at (f := pgc) (l := []) (m := l) (HImp.refl _ _) pgc_len (fun p => by simp [pgc, Value.oneCell']) (fun w' hp' => hs.hp (fun _ _ => id) hp') (bytes := 24) (by simp only [List.length_nil]; omega) ?_
  intro ad c2 hnil
  rw [List.nil_append, List.length_nil, Nat.zero_add]
  simp (config := { maxSteps := 4000000 }) only [↓sx0, ↓sx1, ↓sx2, ↓sx3, ↓sx4, ↓sx5, ↓sx6, sx0, sx1, sx2, sx3, sx4, sx5, sx6, tf7, ev3_hold, sxo, sxc, sxp, sxq, sxr, sxs, sxl, sxm, Int.reduceBEq, Int.reduceBNe, Int.reduceLT, Int.reduceLE, Int.reduceEq, Int.reduceGT, Int.reduceGE, Int.reduceToNat, ↓reduceIte, List.reduceReplicate, Nat.reduceAdd, Nat.reduceSub, Nat.reduceMul, Nat.reduceLT, Nat.reduceLeDiff, Nat.reduceBEq, Nat.reduceEqDiff]
  intro b1
  refine app_one (f := pgc) (l := l) (pt, ph, pk) (HImp.refl _ _) pgc_len (fun p => by simp [pgc, Value.oneCell']) (bytes := 24) (by omega) ?_
  intro ad2 c3
  rw [hn]
  have hn2 : (l ++ [(pt, ph, pk)]).length = n + 1 := by rw [List.length_append, hn]; rfl
  by_cases c4 : pagedN hands 400 (l ++ [(pt, ph, pk)]) = 0
  case neg =>
    have e4 : (pagedN hands 400 (l ++ [(pt, ph, pk)]) = 0) = False := eq_false c4
    simp (config := { maxSteps := 4000000 }) only [↓sx0, ↓sx1, ↓sx2, ↓sx3, ↓sx4, ↓sx5, ↓sx6, sx0, sx1, sx2, sx3, sx4, sx5, sx6, tf7, ev3_hold, sxo, sxc, sxp, sxq, sxr, sxs, sxl, sxm, Int.reduceBEq, Int.reduceBNe, Int.reduceLT, Int.reduceLE, Int.reduceEq, Int.reduceGT, Int.reduceGE, Int.reduceToNat, ↓reduceIte, List.reduceReplicate, Nat.reduceAdd, Nat.reduceSub, Nat.reduceMul, Nat.reduceLT, Nat.reduceLeDiff, Nat.reduceBEq, Nat.reduceEqDiff, det0]
    refine CallOb.pureH (fun w' hp' => rcheckP_fn w' hands 400 _ (l ++ [(pt, ph, pk)]) (row_hp List.mem_cons_self hp')) ?_
    rintro r N rfl
    refine ⟨?_⟩
    simp (config := { maxSteps := 4000000 }) only [↓sx0, ↓sx1, ↓sx2, ↓sx3, ↓sx4, ↓sx5, ↓sx6, sx0, sx1, sx2, sx3, sx4, sx5, sx6, tf7, ev3_hold, sxo, sxc, sxp, sxq, sxr, sxs, sxl, sxm, Int.reduceBEq, Int.reduceBNe, Int.reduceLT, Int.reduceLE, Int.reduceEq, Int.reduceGT, Int.reduceGE, Int.reduceToNat, ↓reduceIte, List.reduceReplicate, Nat.reduceAdd, Nat.reduceSub, Nat.reduceMul, Nat.reduceLT, Nat.reduceLeDiff, Nat.reduceBEq, Nat.reduceEqDiff, e4, det0]
    refine CallOb.pureH (fun w' hp' => works_fn w') ?_
    rintro r N rfl
    refine ⟨?_⟩
    simp (config := { maxSteps := 4000000 }) only [↓sx0, ↓sx1, ↓sx2, ↓sx3, ↓sx4, ↓sx5, ↓sx6, sx0, sx1, sx2, sx3, sx4, sx5, sx6, tf7, ev3_hold, sxo, sxc, sxp, sxq, sxr, sxs, sxl, sxm, Int.reduceBEq, Int.reduceBNe, Int.reduceLT, Int.reduceLE, Int.reduceEq, Int.reduceGT, Int.reduceGE, Int.reduceToNat, ↓reduceIte, List.reduceReplicate, Nat.reduceAdd, Nat.reduceSub, Nat.reduceMul, Nat.reduceLT, Nat.reduceLeDiff, Nat.reduceBEq, Nat.reduceEqDiff]
  have e4 : (pagedN hands 400 (l ++ [(pt, ph, pk)]) = 0) = True := eq_true c4
  have ok1 := (pagedN_zero c0).2
  have ok2 := (pagedN_zero c4).2
  have hh := keptN_zero (pagedN_zero c0).1
  have htold := told ok1 ok2
  have hl1 := ansL_len hands 400 l
  have hl2 := ansL_len hands 400 (l ++ [(pt, ph, pk)])
  obtain ⟨m, rfl⟩ : ∃ m : Nat, hands = m := ⟨hands.toNat, by omega⟩
  rw [Int.toNat_natCast] at hl1 hl2 htold
  obtain ⟨xs, hxs⟩ : ∃ xs, ansL m 400 l = xs := ⟨_, rfl⟩
  obtain ⟨ys, hys⟩ : ∃ ys, ansL m 400 (l ++ [(pt, ph, pk)]) = ys := ⟨_, rfl⟩
  rw [hxs] at htold hl1
  rw [hys] at htold hl2
  obtain ⟨xv, yv, hq⟩ : ∃ xv yv : Nat → Int, ∀ k, k < m → xs[k]? = some (xv k) ∧ ys[k]? = some (yv k) ∧ ((k : Int) ≠ ph → xv k = yv k) ∧ ((k : Int) = ph → pk = 1 → yv k = 0) ∧ ((k : Int) = ph → pk = 2 → xv k = 1 → yv k = 1) ∧ ((k : Int) = ph → pk = 3 → xv k = 2 → yv k = 2) := by
    refine ⟨fun k => xs.getD k 0, fun k => ys.getD k 0, fun k hk => ?_⟩
    obtain ⟨x, y, hx, hy, _, q⟩ := htold k hk
    have ex : xs.getD k 0 = x := by rw [List.getD_eq_getElem?_getD, hx]; rfl
    have ey : ys.getD k 0 = y := by rw [List.getD_eq_getElem?_getD, hy]; rfl
    simp only [ex, ey]
    exact ⟨hx, hy, q⟩
  have hkd : pk = 1 ∨ pk = 2 ∨ pk = 3 := by
    obtain ⟨x, y, hx, hy, hkd, q⟩ := htold 0 (by omega)
    exact hkd
  clear htold
  simp (config := { maxSteps := 4000000 }) only [↓sx0, ↓sx1, ↓sx2, ↓sx3, ↓sx4, ↓sx5, ↓sx6, sx0, sx1, sx2, sx3, sx4, sx5, sx6, tf7, ev3_hold, sxo, sxc, sxp, sxq, sxr, sxs, sxl, sxm, Int.reduceBEq, Int.reduceBNe, Int.reduceLT, Int.reduceLE, Int.reduceEq, Int.reduceGT, Int.reduceGE, Int.reduceToNat, ↓reduceIte, List.reduceReplicate, Nat.reduceAdd, Nat.reduceSub, Nat.reduceMul, Nat.reduceLT, Nat.reduceLeDiff, Nat.reduceBEq, Nat.reduceEqDiff, det0]
  refine CallOb.pureH (fun w' hp' => rcheckP_fn w' m 400 _ (l ++ [(pt, ph, pk)]) (row_hp List.mem_cons_self hp')) ?_
  rintro r N rfl
  refine ⟨?_⟩
  simp (config := { maxSteps := 4000000 }) only [↓sx0, ↓sx1, ↓sx2, ↓sx3, ↓sx4, ↓sx5, ↓sx6, sx0, sx1, sx2, sx3, sx4, sx5, sx6, tf7, ev3_hold, sxo, sxc, sxp, sxq, sxr, sxs, sxl, sxm, Int.reduceBEq, Int.reduceBNe, Int.reduceLT, Int.reduceLE, Int.reduceEq, Int.reduceGT, Int.reduceGE, Int.reduceToNat, ↓reduceIte, List.reduceReplicate, Nat.reduceAdd, Nat.reduceSub, Nat.reduceMul, Nat.reduceLT, Nat.reduceLeDiff, Nat.reduceBEq, Nat.reduceEqDiff, e4, det0]
  refine CallOb.pureH (fun w' hp' => answers_fn w' m 400 _ l (hs.hp (fun _ _ => id) hp') (by omega)) ?_
  rintro r N1 ⟨x1, rfl, g1⟩
  rw [if_pos c0, hxs] at g1
  have gs1 := g1.shape
  obtain ⟨ad3, c5, hx1⟩ := gs1
  rw [hl1] at hx1
  subst hx1
  refine ⟨?_⟩
  simp (config := { maxSteps := 4000000 }) only [↓sx0, ↓sx1, ↓sx2, ↓sx3, ↓sx4, ↓sx5, ↓sx6, sx0, sx1, sx2, sx3, sx4, sx5, sx6, tf7, ev3_hold, sxo, sxc, sxp, sxq, sxr, sxs, sxl, sxm, Int.reduceBEq, Int.reduceBNe, Int.reduceLT, Int.reduceLE, Int.reduceEq, Int.reduceGT, Int.reduceGE, Int.reduceToNat, ↓reduceIte, List.reduceReplicate, Nat.reduceAdd, Nat.reduceSub, Nat.reduceMul, Nat.reduceLT, Nat.reduceLeDiff, Nat.reduceBEq, Nat.reduceEqDiff, det0, c0]
  refine CallOb.pureH (fun w' hp' => answers_fn w' m 400 _ (l ++ [(pt, ph, pk)]) (row_hp (E := 51) (by simp) hp') (by omega)) ?_
  rintro r N2 ⟨x2, rfl, g2⟩
  rw [if_pos c4, hys] at g2
  have gs2 := g2.shape
  obtain ⟨ad4, c6, hx2⟩ := gs2
  rw [hl2] at hx2
  subst hx2
  refine ⟨?_⟩
  simp (config := { maxSteps := 4000000 }) only [↓sx0, ↓sx1, ↓sx2, ↓sx3, ↓sx4, ↓sx5, ↓sx6, sx0, sx1, sx2, sx3, sx4, sx5, sx6, tf7, ev3_hold, sxo, sxc, sxp, sxq, sxr, sxs, sxl, sxm, Int.reduceBEq, Int.reduceBNe, Int.reduceLT, Int.reduceLE, Int.reduceEq, Int.reduceGT, Int.reduceGE, Int.reduceToNat, ↓reduceIte, List.reduceReplicate, Nat.reduceAdd, Nat.reduceSub, Nat.reduceMul, Nat.reduceLT, Nat.reduceLeDiff, Nat.reduceBEq, Nat.reduceEqDiff, det0, c0, c4]
  refine loop_constH _ (HImp.refl _ _) [(6, 6), (12, 12), (64, 129)] (fun k : Nat => [(12, I k)]) (fun k H1 => k ≤ m ∧ (∀ h ∈ N1, h ∈ H1) ∧ (∀ h ∈ N2, h ∈ H1)) (fun k => m - k) 0 ?_ ⟨Nat.zero_le _, by simp +contextual, by simp +contextual⟩ ?_
  · simp (config := { maxSteps := 4000000 }) only [↓sx0, ↓sx1, ↓sx2, ↓sx3, ↓sx4, ↓sx5, ↓sx6, sx0, sx1, sx2, sx3, sx4, sx5, sx6, tf7, ev3_hold, sxo, sxc, sxp, sxq, sxr, sxs, sxl, sxm, Int.reduceBEq, Int.reduceBNe, Int.reduceLT, Int.reduceLE, Int.reduceEq, Int.reduceGT, Int.reduceGE, Int.reduceToNat, ↓reduceIte, List.reduceReplicate, Nat.reduceAdd, Nat.reduceSub, Nat.reduceMul, Nat.reduceLT, Nat.reduceLeDiff, Nat.reduceBEq, Nat.reduceEqDiff]
    simp
  rintro k H1 g3 ⟨hk, hm1, hm2⟩
  have r1 := g1.rdv (w0 := ⟨w, fun _ => False⟩) i1_len hm1
  have r2 := g2.rdv (w0 := ⟨w, fun _ => False⟩) i1_len hm2
  by_cases hkn : k = m
  · have e7 : ((k : Int) < (m : Int)) = False := eq_false (by omega)
    refine ⟨?_⟩
    simp (config := { maxSteps := 4000000 }) only [↓sx0, ↓sx1, ↓sx2, ↓sx3, ↓sx4, ↓sx5, ↓sx6, sx0, sx1, sx2, sx3, sx4, sx5, sx6, tf7, ev3_hold, sxo, sxc, sxp, sxq, sxr, sxs, sxl, sxm, Int.reduceBEq, Int.reduceBNe, Int.reduceLT, Int.reduceLE, Int.reduceEq, Int.reduceGT, Int.reduceGE, Int.reduceToNat, ↓reduceIte, List.reduceReplicate, Nat.reduceAdd, Nat.reduceSub, Nat.reduceMul, Nat.reduceLT, Nat.reduceLeDiff, Nat.reduceBEq, Nat.reduceEqDiff, e7, det0]
    refine CallOb.pureH (fun w' hp' => works_fn w') ?_
    rintro r N rfl
    refine ⟨?_⟩
    simp (config := { maxSteps := 4000000 }) only [↓sx0, ↓sx1, ↓sx2, ↓sx3, ↓sx4, ↓sx5, ↓sx6, sx0, sx1, sx2, sx3, sx4, sx5, sx6, tf7, ev3_hold, sxo, sxc, sxp, sxq, sxr, sxs, sxl, sxm, Int.reduceBEq, Int.reduceBNe, Int.reduceLT, Int.reduceLE, Int.reduceEq, Int.reduceGT, Int.reduceGE, Int.reduceToNat, ↓reduceIte, List.reduceReplicate, Nat.reduceAdd, Nat.reduceSub, Nat.reduceMul, Nat.reduceLT, Nat.reduceLeDiff, Nat.reduceBEq, Nat.reduceEqDiff]
  have e7 : ((k : Int) < (m : Int)) = True := eq_true (by omega)
  have e2 : wr (k + 1) = ((k + 1 : Nat) : Int) := (wrap_id (by omega)).trans (by omega)
  have hkm : k < m := by omega
  have hx := (hq k hkm).1
  have hy := (hq k hkm).2.1
  by_cases d1 : (k : Int) = ph
  case neg =>
    have p1 : ((k : Int) = ph) = False := eq_false d1
    rw [← (hq k hkm).2.2.1 d1] at hy
    by_cases b1 : pk = 1
    · have f1 : (pk = 1) = True := eq_true b1
      refine ⟨?_⟩
      simp (config := { maxSteps := 4000000 }) only [↓sx0, ↓sx1, ↓sx2, ↓sx3, ↓sx4, ↓sx5, ↓sx6, sx0, sx1, sx2, sx3, sx4, sx5, sx6, tf7, ev3_hold, sxo, sxc, sxp, sxq, sxr, sxs, sxl, sxm, Int.reduceBEq, Int.reduceBNe, Int.reduceLT, Int.reduceLE, Int.reduceEq, Int.reduceGT, Int.reduceGE, Int.reduceToNat, ↓reduceIte, List.reduceReplicate, Nat.reduceAdd, Nat.reduceSub, Nat.reduceMul, Nat.reduceLT, Nat.reduceLeDiff, Nat.reduceBEq, Nat.reduceEqDiff, e7, p1, f1, pl7_lk]
      refine amid (at_1 r1 i1_len hx rfl fun ad => ?_)
      simp (config := { maxSteps := 4000000 }) only [↓sx0, ↓sx1, ↓sx2, ↓sx3, ↓sx4, ↓sx5, ↓sx6, sx0, sx1, sx2, sx3, sx4, sx5, sx6, tf7, ev3_hold, sxo, sxc, sxp, sxq, sxr, sxs, sxl, sxm, Int.reduceBEq, Int.reduceBNe, Int.reduceLT, Int.reduceLE, Int.reduceEq, Int.reduceGT, Int.reduceGE, Int.reduceToNat, ↓reduceIte, List.reduceReplicate, Nat.reduceAdd, Nat.reduceSub, Nat.reduceMul, Nat.reduceLT, Nat.reduceLeDiff, Nat.reduceBEq, Nat.reduceEqDiff]
      refine at_1 r2 i1_len hy rfl fun ad => ?_
      simp (config := { maxSteps := 4000000 }) only [↓sx0, ↓sx1, ↓sx2, ↓sx3, ↓sx4, ↓sx5, ↓sx6, sx0, sx1, sx2, sx3, sx4, sx5, sx6, tf7, ev3_hold, sxo, sxc, sxp, sxq, sxr, sxs, sxl, sxm, Int.reduceBEq, Int.reduceBNe, Int.reduceLT, Int.reduceLE, Int.reduceEq, Int.reduceGT, Int.reduceGE, Int.reduceToNat, ↓reduceIte, List.reduceReplicate, Nat.reduceAdd, Nat.reduceSub, Nat.reduceMul, Nat.reduceLT, Nat.reduceLeDiff, Nat.reduceBEq, Nat.reduceEqDiff, e2]
      exact ⟨k + 1, _, rfl, HImp.refl _ _, ⟨by omega, hm1, hm2⟩, by omega⟩
    have f1 : (pk = 1) = False := eq_false b1
    by_cases b2 : pk = 2
    · have f2 : (pk = 2) = True := eq_true b2
      refine ⟨?_⟩
      simp (config := { maxSteps := 4000000 }) only [↓sx0, ↓sx1, ↓sx2, ↓sx3, ↓sx4, ↓sx5, ↓sx6, sx0, sx1, sx2, sx3, sx4, sx5, sx6, tf7, ev3_hold, sxo, sxc, sxp, sxq, sxr, sxs, sxl, sxm, Int.reduceBEq, Int.reduceBNe, Int.reduceLT, Int.reduceLE, Int.reduceEq, Int.reduceGT, Int.reduceGE, Int.reduceToNat, ↓reduceIte, List.reduceReplicate, Nat.reduceAdd, Nat.reduceSub, Nat.reduceMul, Nat.reduceLT, Nat.reduceLeDiff, Nat.reduceBEq, Nat.reduceEqDiff, e7, p1, f1, f2, pl7_lk]
      refine amid (at_1 r1 i1_len hx rfl fun ad => ?_)
      simp (config := { maxSteps := 4000000 }) only [↓sx0, ↓sx1, ↓sx2, ↓sx3, ↓sx4, ↓sx5, ↓sx6, sx0, sx1, sx2, sx3, sx4, sx5, sx6, tf7, ev3_hold, sxo, sxc, sxp, sxq, sxr, sxs, sxl, sxm, Int.reduceBEq, Int.reduceBNe, Int.reduceLT, Int.reduceLE, Int.reduceEq, Int.reduceGT, Int.reduceGE, Int.reduceToNat, ↓reduceIte, List.reduceReplicate, Nat.reduceAdd, Nat.reduceSub, Nat.reduceMul, Nat.reduceLT, Nat.reduceLeDiff, Nat.reduceBEq, Nat.reduceEqDiff]
      refine at_1 r2 i1_len hy rfl fun ad => ?_
      simp (config := { maxSteps := 4000000 }) only [↓sx0, ↓sx1, ↓sx2, ↓sx3, ↓sx4, ↓sx5, ↓sx6, sx0, sx1, sx2, sx3, sx4, sx5, sx6, tf7, ev3_hold, sxo, sxc, sxp, sxq, sxr, sxs, sxl, sxm, Int.reduceBEq, Int.reduceBNe, Int.reduceLT, Int.reduceLE, Int.reduceEq, Int.reduceGT, Int.reduceGE, Int.reduceToNat, ↓reduceIte, List.reduceReplicate, Nat.reduceAdd, Nat.reduceSub, Nat.reduceMul, Nat.reduceLT, Nat.reduceLeDiff, Nat.reduceBEq, Nat.reduceEqDiff, e2]
      exact ⟨k + 1, _, rfl, HImp.refl _ _, ⟨by omega, hm1, hm2⟩, by omega⟩
    have f2 : (pk = 2) = False := eq_false b2
    have f3 : (pk = 3) = True := eq_true (by omega)
    refine ⟨?_⟩
    simp (config := { maxSteps := 4000000 }) only [↓sx0, ↓sx1, ↓sx2, ↓sx3, ↓sx4, ↓sx5, ↓sx6, sx0, sx1, sx2, sx3, sx4, sx5, sx6, tf7, ev3_hold, sxo, sxc, sxp, sxq, sxr, sxs, sxl, sxm, Int.reduceBEq, Int.reduceBNe, Int.reduceLT, Int.reduceLE, Int.reduceEq, Int.reduceGT, Int.reduceGE, Int.reduceToNat, ↓reduceIte, List.reduceReplicate, Nat.reduceAdd, Nat.reduceSub, Nat.reduceMul, Nat.reduceLT, Nat.reduceLeDiff, Nat.reduceBEq, Nat.reduceEqDiff, e7, p1, f1, f2, f3, pl7_lk]
    refine amid (at_1 r1 i1_len hx rfl fun ad => ?_)
    simp (config := { maxSteps := 4000000 }) only [↓sx0, ↓sx1, ↓sx2, ↓sx3, ↓sx4, ↓sx5, ↓sx6, sx0, sx1, sx2, sx3, sx4, sx5, sx6, tf7, ev3_hold, sxo, sxc, sxp, sxq, sxr, sxs, sxl, sxm, Int.reduceBEq, Int.reduceBNe, Int.reduceLT, Int.reduceLE, Int.reduceEq, Int.reduceGT, Int.reduceGE, Int.reduceToNat, ↓reduceIte, List.reduceReplicate, Nat.reduceAdd, Nat.reduceSub, Nat.reduceMul, Nat.reduceLT, Nat.reduceLeDiff, Nat.reduceBEq, Nat.reduceEqDiff]
    refine at_1 r2 i1_len hy rfl fun ad => ?_
    simp (config := { maxSteps := 4000000 }) only [↓sx0, ↓sx1, ↓sx2, ↓sx3, ↓sx4, ↓sx5, ↓sx6, sx0, sx1, sx2, sx3, sx4, sx5, sx6, tf7, ev3_hold, sxo, sxc, sxp, sxq, sxr, sxs, sxl, sxm, Int.reduceBEq, Int.reduceBNe, Int.reduceLT, Int.reduceLE, Int.reduceEq, Int.reduceGT, Int.reduceGE, Int.reduceToNat, ↓reduceIte, List.reduceReplicate, Nat.reduceAdd, Nat.reduceSub, Nat.reduceMul, Nat.reduceLT, Nat.reduceLeDiff, Nat.reduceBEq, Nat.reduceEqDiff, e2]
    exact ⟨k + 1, _, rfl, HImp.refl _ _, ⟨by omega, hm1, hm2⟩, by omega⟩
  have p1 : ((k : Int) = ph) = True := eq_true d1
  by_cases b1 : pk = 1
  · have f1 : (pk = 1) = True := eq_true b1
    have f2 : (pk = 2) = False := eq_false (by omega)
    have f3 : (pk = 3) = False := eq_false (by omega)
    rw [(hq k hkm).2.2.2.1 d1 b1] at hy
    refine ⟨?_⟩
    simp (config := { maxSteps := 4000000 }) only [↓sx0, ↓sx1, ↓sx2, ↓sx3, ↓sx4, ↓sx5, ↓sx6, sx0, sx1, sx2, sx3, sx4, sx5, sx6, tf7, ev3_hold, sxo, sxc, sxp, sxq, sxr, sxs, sxl, sxm, Int.reduceBEq, Int.reduceBNe, Int.reduceLT, Int.reduceLE, Int.reduceEq, Int.reduceGT, Int.reduceGE, Int.reduceToNat, ↓reduceIte, List.reduceReplicate, Nat.reduceAdd, Nat.reduceSub, Nat.reduceMul, Nat.reduceLT, Nat.reduceLeDiff, Nat.reduceBEq, Nat.reduceEqDiff, e7, p1, f1, f2, f3, pl7_lk]
    refine amid (at_1 r2 i1_len hy rfl fun ad => ?_)
    simp (config := { maxSteps := 4000000 }) only [↓sx0, ↓sx1, ↓sx2, ↓sx3, ↓sx4, ↓sx5, ↓sx6, sx0, sx1, sx2, sx3, sx4, sx5, sx6, tf7, ev3_hold, sxo, sxc, sxp, sxq, sxr, sxs, sxl, sxm, Int.reduceBEq, Int.reduceBNe, Int.reduceLT, Int.reduceLE, Int.reduceEq, Int.reduceGT, Int.reduceGE, Int.reduceToNat, ↓reduceIte, List.reduceReplicate, Nat.reduceAdd, Nat.reduceSub, Nat.reduceMul, Nat.reduceLT, Nat.reduceLeDiff, Nat.reduceBEq, Nat.reduceEqDiff, f2, f3, e2]
    exact ⟨k + 1, _, rfl, HImp.refl _ _, ⟨by omega, hm1, hm2⟩, by omega⟩
  have f1 : (pk = 1) = False := eq_false b1
  by_cases b2 : pk = 2
  · have f2 : (pk = 2) = True := eq_true b2
    have f3 : (pk = 3) = False := eq_false (by omega)
    by_cases d2 : xv k = 1
    · have p2 : (xv k = 1) = True := eq_true d2
      rw [(hq k hkm).2.2.2.2.1 d1 b2 d2] at hy
      refine ⟨?_⟩
      simp (config := { maxSteps := 4000000 }) only [↓sx0, ↓sx1, ↓sx2, ↓sx3, ↓sx4, ↓sx5, ↓sx6, sx0, sx1, sx2, sx3, sx4, sx5, sx6, tf7, ev3_hold, sxo, sxc, sxp, sxq, sxr, sxs, sxl, sxm, Int.reduceBEq, Int.reduceBNe, Int.reduceLT, Int.reduceLE, Int.reduceEq, Int.reduceGT, Int.reduceGE, Int.reduceToNat, ↓reduceIte, List.reduceReplicate, Nat.reduceAdd, Nat.reduceSub, Nat.reduceMul, Nat.reduceLT, Nat.reduceLeDiff, Nat.reduceBEq, Nat.reduceEqDiff, e7, p1, f1, f2, f3, pl7_lk]
      refine amid (at_1 r1 i1_len hx rfl fun ad => ?_)
      simp (config := { maxSteps := 4000000 }) only [↓sx0, ↓sx1, ↓sx2, ↓sx3, ↓sx4, ↓sx5, ↓sx6, sx0, sx1, sx2, sx3, sx4, sx5, sx6, tf7, ev3_hold, sxo, sxc, sxp, sxq, sxr, sxs, sxl, sxm, Int.reduceBEq, Int.reduceBNe, Int.reduceLT, Int.reduceLE, Int.reduceEq, Int.reduceGT, Int.reduceGE, Int.reduceToNat, ↓reduceIte, List.reduceReplicate, Nat.reduceAdd, Nat.reduceSub, Nat.reduceMul, Nat.reduceLT, Nat.reduceLeDiff, Nat.reduceBEq, Nat.reduceEqDiff, p2, f3]
      refine at_1 r2 i1_len hy rfl fun ad => ?_
      simp (config := { maxSteps := 4000000 }) only [↓sx0, ↓sx1, ↓sx2, ↓sx3, ↓sx4, ↓sx5, ↓sx6, sx0, sx1, sx2, sx3, sx4, sx5, sx6, tf7, ev3_hold, sxo, sxc, sxp, sxq, sxr, sxs, sxl, sxm, Int.reduceBEq, Int.reduceBNe, Int.reduceLT, Int.reduceLE, Int.reduceEq, Int.reduceGT, Int.reduceGE, Int.reduceToNat, ↓reduceIte, List.reduceReplicate, Nat.reduceAdd, Nat.reduceSub, Nat.reduceMul, Nat.reduceLT, Nat.reduceLeDiff, Nat.reduceBEq, Nat.reduceEqDiff, f3, e2]
      exact ⟨k + 1, _, rfl, HImp.refl _ _, ⟨by omega, hm1, hm2⟩, by omega⟩
    · have p2 : (xv k = 1) = False := eq_false d2
      refine ⟨?_⟩
      simp (config := { maxSteps := 4000000 }) only [↓sx0, ↓sx1, ↓sx2, ↓sx3, ↓sx4, ↓sx5, ↓sx6, sx0, sx1, sx2, sx3, sx4, sx5, sx6, tf7, ev3_hold, sxo, sxc, sxp, sxq, sxr, sxs, sxl, sxm, Int.reduceBEq, Int.reduceBNe, Int.reduceLT, Int.reduceLE, Int.reduceEq, Int.reduceGT, Int.reduceGE, Int.reduceToNat, ↓reduceIte, List.reduceReplicate, Nat.reduceAdd, Nat.reduceSub, Nat.reduceMul, Nat.reduceLT, Nat.reduceLeDiff, Nat.reduceBEq, Nat.reduceEqDiff, e7, p1, f1, f2, f3, pl7_lk]
      refine amid (at_1 r1 i1_len hx rfl fun ad => ?_)
      simp (config := { maxSteps := 4000000 }) only [↓sx0, ↓sx1, ↓sx2, ↓sx3, ↓sx4, ↓sx5, ↓sx6, sx0, sx1, sx2, sx3, sx4, sx5, sx6, tf7, ev3_hold, sxo, sxc, sxp, sxq, sxr, sxs, sxl, sxm, Int.reduceBEq, Int.reduceBNe, Int.reduceLT, Int.reduceLE, Int.reduceEq, Int.reduceGT, Int.reduceGE, Int.reduceToNat, ↓reduceIte, List.reduceReplicate, Nat.reduceAdd, Nat.reduceSub, Nat.reduceMul, Nat.reduceLT, Nat.reduceLeDiff, Nat.reduceBEq, Nat.reduceEqDiff, p2, f3, e2]
      exact ⟨k + 1, _, rfl, HImp.refl _ _, ⟨by omega, hm1, hm2⟩, by omega⟩
  have f2 : (pk = 2) = False := eq_false b2
  have b3 : pk = 3 := by omega
  have f3 : (pk = 3) = True := eq_true b3
  by_cases d2 : xv k = 2
  · have p2 : (xv k = 2) = True := eq_true d2
    rw [(hq k hkm).2.2.2.2.2 d1 b3 d2] at hy
    refine ⟨?_⟩
    simp (config := { maxSteps := 4000000 }) only [↓sx0, ↓sx1, ↓sx2, ↓sx3, ↓sx4, ↓sx5, ↓sx6, sx0, sx1, sx2, sx3, sx4, sx5, sx6, tf7, ev3_hold, sxo, sxc, sxp, sxq, sxr, sxs, sxl, sxm, Int.reduceBEq, Int.reduceBNe, Int.reduceLT, Int.reduceLE, Int.reduceEq, Int.reduceGT, Int.reduceGE, Int.reduceToNat, ↓reduceIte, List.reduceReplicate, Nat.reduceAdd, Nat.reduceSub, Nat.reduceMul, Nat.reduceLT, Nat.reduceLeDiff, Nat.reduceBEq, Nat.reduceEqDiff, e7, p1, f1, f2, f3, pl7_lk]
    refine amid (at_1 r1 i1_len hx rfl fun ad => ?_)
    simp (config := { maxSteps := 4000000 }) only [↓sx0, ↓sx1, ↓sx2, ↓sx3, ↓sx4, ↓sx5, ↓sx6, sx0, sx1, sx2, sx3, sx4, sx5, sx6, tf7, ev3_hold, sxo, sxc, sxp, sxq, sxr, sxs, sxl, sxm, Int.reduceBEq, Int.reduceBNe, Int.reduceLT, Int.reduceLE, Int.reduceEq, Int.reduceGT, Int.reduceGE, Int.reduceToNat, ↓reduceIte, List.reduceReplicate, Nat.reduceAdd, Nat.reduceSub, Nat.reduceMul, Nat.reduceLT, Nat.reduceLeDiff, Nat.reduceBEq, Nat.reduceEqDiff, p2]
    refine at_1 r2 i1_len hy rfl fun ad => ?_
    simp (config := { maxSteps := 4000000 }) only [↓sx0, ↓sx1, ↓sx2, ↓sx3, ↓sx4, ↓sx5, ↓sx6, sx0, sx1, sx2, sx3, sx4, sx5, sx6, tf7, ev3_hold, sxo, sxc, sxp, sxq, sxr, sxs, sxl, sxm, Int.reduceBEq, Int.reduceBNe, Int.reduceLT, Int.reduceLE, Int.reduceEq, Int.reduceGT, Int.reduceGE, Int.reduceToNat, ↓reduceIte, List.reduceReplicate, Nat.reduceAdd, Nat.reduceSub, Nat.reduceMul, Nat.reduceLT, Nat.reduceLeDiff, Nat.reduceBEq, Nat.reduceEqDiff, e2]
    exact ⟨k + 1, _, rfl, HImp.refl _ _, ⟨by omega, hm1, hm2⟩, by omega⟩
  · have p2 : (xv k = 2) = False := eq_false d2
    refine ⟨?_⟩
    simp (config := { maxSteps := 4000000 }) only [↓sx0, ↓sx1, ↓sx2, ↓sx3, ↓sx4, ↓sx5, ↓sx6, sx0, sx1, sx2, sx3, sx4, sx5, sx6, tf7, ev3_hold, sxo, sxc, sxp, sxq, sxr, sxs, sxl, sxm, Int.reduceBEq, Int.reduceBNe, Int.reduceLT, Int.reduceLE, Int.reduceEq, Int.reduceGT, Int.reduceGE, Int.reduceToNat, ↓reduceIte, List.reduceReplicate, Nat.reduceAdd, Nat.reduceSub, Nat.reduceMul, Nat.reduceLT, Nat.reduceLeDiff, Nat.reduceBEq, Nat.reduceEqDiff, e7, p1, f1, f2, f3, pl7_lk]
    refine amid (at_1 r1 i1_len hx rfl fun ad => ?_)
    simp (config := { maxSteps := 4000000 }) only [↓sx0, ↓sx1, ↓sx2, ↓sx3, ↓sx4, ↓sx5, ↓sx6, sx0, sx1, sx2, sx3, sx4, sx5, sx6, tf7, ev3_hold, sxo, sxc, sxp, sxq, sxr, sxs, sxl, sxm, Int.reduceBEq, Int.reduceBNe, Int.reduceLT, Int.reduceLE, Int.reduceEq, Int.reduceGT, Int.reduceGE, Int.reduceToNat, ↓reduceIte, List.reduceReplicate, Nat.reduceAdd, Nat.reduceSub, Nat.reduceMul, Nat.reduceLT, Nat.reduceLeDiff, Nat.reduceBEq, Nat.reduceEqDiff, p2, e2]
    exact ⟨k + 1, _, rfl, HImp.refl _ _, ⟨by omega, hm1, hm2⟩, by omega⟩

end Go.Proofs.Ytlbcgkoncnablaa
