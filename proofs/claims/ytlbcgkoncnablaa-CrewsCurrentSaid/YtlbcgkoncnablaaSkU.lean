/- A part of a proof: the symbolic walk and what it shows of single functions. -/
import Derived.Test.YtlbcgkoncnablaaSkT
set_option linter.all false
namespace Go.Proofs.Ytlbcgkoncnablaa
open Go.RowKit Go.SX
set_option maxRecDepth 10000
set_option maxHeartbeats 4000000
set_option linter.unusedSimpArgs false
set_option linter.unusedVariables false

/-! ### The document's answers -/

def rpA (hands tick : Int) (l : List Pg) : List Int := (List.range hands.toNat).map fun (h : Nat) => (rpV l h tick).1

def raB (tick every : Int) (y : Int × Int) : Bool := decide (y.1 = 0) && (decide (y.2 = -1000) || decide (tick - y.2 ≥ every))
def raL (tick every : Int) (f : Nat → Int × Int) (n : Nat) : List Int := ((List.range n).filter fun h => raB tick every (f h)).map fun (h : Nat) => (h : Int)

theorem raL_succ (tick every : Int) (f : Nat → Int × Int) (n : Nat) : raL tick every f (n + 1) = raL tick every f n ++ if raB tick every (f n) then [(n : Int)] else [] := by
  unfold raL
  rw [List.range_succ, List.filter_append, List.map_append]
  congr 1
  rw [List.filter_cons]
  split <;> rfl

theorem raL_len (tick every : Int) (f : Nat → Int × Int) (n : Nat) : (raL tick every f n).length ≤ n := by
  unfold raL
  rw [List.length_map]
  exact Nat.le_trans (List.length_filter_le _ _) (by rw [List.length_range]; exact Nat.le_refl _)

def rsIn (y : Int × Int) : Prop := y.2 = -1000 ∨ (-200 ≤ y.2 ∧ y.2 ≤ 400)

theorem rpF_in (h tick : Int) : ∀ (l : List Pg) (y : Int × Int), (∀ p ∈ l, -200 ≤ p.1 ∧ p.1 ≤ 400) → rsIn y → rsIn (l.foldl (rpStep h tick) y)
  | [], _, _, hy => hy
  | p :: r, y, hl, hy => by
    rw [List.foldl_cons]
    refine rpF_in h tick r _ (fun q hq => hl q (List.mem_cons_of_mem _ hq)) ?_
    have := hl p List.mem_cons_self
    unfold rpStep
    repeat' split
    · exact hy
    · exact .inr this
    · exact hy
    · exact hy
    · exact hy

theorem ranswers_fn (w : World) (hands tick : Int) (v : Value) (l : List Pg) (hs : Sl w v 3 (cat pgc l)) (hb : l.length ≤ 1099511627776) :
    SX.Fn Try.prog 31 [I hands, v, I tick] w (fun _ => False) fun r N => ∃ x, r = .tuple #[x, I (pagedN hands tick l)] ∧ Got x 3 1 i1 (if pagedN hands tick l = 0 then rpA hands tick l else []) N := by
  obtain ⟨a, n, c, rfl⟩ := hs.shape
  by_cases h0 : pagedN hands tick l = 0
  case neg =>
    have e0 : (pagedN hands tick l = 0) = False := eq_false h0
    rw [if_neg h0]
    refine walk [] [] (det0_ok _ _) Try.func31 rfl Try.ntmps31 res31 (by kernel_rfl) no_facts ?_
    simp (config := { maxSteps := 4000000 }) only [↓sx0, ↓sx1, ↓sx2, ↓sx3, ↓sx4, ↓sx5, ↓sx6, sx0, sx1, sx2, sx3, sx4, sx5, sx6, tf31, ev3_hold, sxo, sxc, sxp, sxq, sxr, sxs, sxl, sxm, Int.reduceBEq, Int.reduceBNe, Int.reduceLT, Int.reduceLE, Int.reduceEq, Int.reduceGT, Int.reduceGE, Int.reduceToNat, ↓reduceIte, List.reduceReplicate, Nat.reduceAdd, Nat.reduceSub, Nat.reduceMul, Nat.reduceLT, Nat.reduceLeDiff, Nat.reduceBEq, Nat.reduceEqDiff, det0]
    refine CallOb.pureH (fun w' hp' => rcheckP_fn w' hands tick _ l (hs.hp (fun _ _ => id) hp')) ?_
    rintro r N rfl
    refine ⟨?_⟩
    simp (config := { maxSteps := 4000000 }) only [↓sx0, ↓sx1, ↓sx2, ↓sx3, ↓sx4, ↓sx5, ↓sx6, sx0, sx1, sx2, sx3, sx4, sx5, sx6, tf31, ev3_hold, sxo, sxc, sxp, sxq, sxr, sxs, sxl, sxm, Int.reduceBEq, Int.reduceBNe, Int.reduceLT, Int.reduceLE, Int.reduceEq, Int.reduceGT, Int.reduceGE, Int.reduceToNat, ↓reduceIte, List.reduceReplicate, Nat.reduceAdd, Nat.reduceSub, Nat.reduceMul, Nat.reduceLT, Nat.reduceLeDiff, Nat.reduceBEq, Nat.reduceEqDiff, e0]
    exact ⟨_, rfl, Got.nil _⟩
  have e0 : (pagedN hands tick l = 0) = True := eq_true h0
  rw [if_pos h0]
  obtain ⟨hk0, hok⟩ := pagedN_zero h0
  obtain ⟨h1, h2, _, _⟩ := keptN_zero hk0
  obtain ⟨m, rfl⟩ : ∃ m : Nat, hands = m := ⟨hands.toNat, by omega⟩
  unfold rpA
  rw [Int.toNat_natCast]
  refine walk [] [] (det0_ok _ _) Try.func31 rfl Try.ntmps31 res31 (by kernel_rfl) no_facts ?_
  simp (config := { maxSteps := 4000000 }) only [↓sx0, ↓sx1, ↓sx2, ↓sx3, ↓sx4, ↓sx5, ↓sx6, sx0, sx1, sx2, sx3, sx4, sx5, sx6, tf31, ev3_hold, sxo, sxc, sxp, sxq, sxr, sxs, sxl, sxm, Int.reduceBEq, Int.reduceBNe, Int.reduceLT, Int.reduceLE, Int.reduceEq, Int.reduceGT, Int.reduceGE, Int.reduceToNat, ↓reduceIte, List.reduceReplicate, Nat.reduceAdd, Nat.reduceSub, Nat.reduceMul, Nat.reduceLT, Nat.reduceLeDiff, Nat.reduceBEq, Nat.reduceEqDiff, det0]
  refine CallOb.pureH (fun w' hp' => rcheckP_fn w' m tick _ l (hs.hp (fun _ _ => id) hp')) ?_
  rintro r N rfl
  refine ⟨?_⟩
  simp (config := { maxSteps := 4000000 }) only [↓sx0, ↓sx1, ↓sx2, ↓sx3, ↓sx4, ↓sx5, ↓sx6, sx0, sx1, sx2, sx3, sx4, sx5, sx6, tf31, ev3_hold, sxo, sxc, sxp, sxq, sxr, sxs, sxl, sxm, Int.reduceBEq, Int.reduceBNe, Int.reduceLT, Int.reduceLE, Int.reduceEq, Int.reduceGT, Int.reduceGE, Int.reduceToNat, ↓reduceIte, List.reduceReplicate, Nat.reduceAdd, Nat.reduceSub, Nat.reduceMul, Nat.reduceLT, Nat.reduceLeDiff, Nat.reduceBEq, Nat.reduceEqDiff, e0]
  refine loop_constH [.row (.slice none 0 0) 3 1 []] ((HImp.nilRow _ _ _ _).trans (HImp.sub ((List.nil_sublist _).cons_cons _))) [(9, 12), (20, 35)] (fun x : Nat × Option Addr × Nat => [(9, .slice x.2.1 x.1 x.2.2), (10, I x.1)])
    (fun x H1 => (x.1 ≤ m ∧ (x.2.1 = none → x.1 = 0)) ∧ H1 = [.row (.slice x.2.1 x.1 x.2.2) 3 1 (ints ((List.range x.1).map fun (h : Nat) => (rpV l h tick).1))]) (fun x => m - x.1) (0, none, 0) ?_ ⟨⟨Nat.zero_le _, fun _ => rfl⟩, rfl⟩ ?_
  · simp (config := { maxSteps := 4000000 }) only [↓sx0, ↓sx1, ↓sx2, ↓sx3, ↓sx4, ↓sx5, ↓sx6, sx0, sx1, sx2, sx3, sx4, sx5, sx6, tf31, ev3_hold, sxo, sxc, sxp, sxq, sxr, sxs, sxl, sxm, Int.reduceBEq, Int.reduceBNe, Int.reduceLT, Int.reduceLE, Int.reduceEq, Int.reduceGT, Int.reduceGE, Int.reduceToNat, ↓reduceIte, List.reduceReplicate, Nat.reduceAdd, Nat.reduceSub, Nat.reduceMul, Nat.reduceLT, Nat.reduceLeDiff, Nat.reduceBEq, Nat.reduceEqDiff]
    simp
  rintro ⟨k, oa, oc⟩ H1 g1 ⟨⟨hk, ho⟩, rfl⟩
  simp only at hk ho
  by_cases hkn : k = m
  · have e7 : ((k : Int) < (m : Int)) = False := eq_false (by omega)
    subst hkn
    refine ⟨?_⟩
    simp (config := { maxSteps := 4000000 }) only [↓sx0, ↓sx1, ↓sx2, ↓sx3, ↓sx4, ↓sx5, ↓sx6, sx0, sx1, sx2, sx3, sx4, sx5, sx6, tf31, ev3_hold, sxo, sxc, sxp, sxq, sxr, sxs, sxl, sxm, Int.reduceBEq, Int.reduceBNe, Int.reduceLT, Int.reduceLE, Int.reduceEq, Int.reduceGT, Int.reduceGE, Int.reduceToNat, ↓reduceIte, List.reduceReplicate, Nat.reduceAdd, Nat.reduceSub, Nat.reduceMul, Nat.reduceLT, Nat.reduceLeDiff, Nat.reduceBEq, Nat.reduceEqDiff, e7]
    exact ⟨_, by rw [h0], Got.row (by rw [List.length_map, List.length_range]) List.mem_cons_self (fun h => by have := ho h; omega)⟩
  have e7 : ((k : Int) < (m : Int)) = True := eq_true (by omega)
  have e2 : wr (k + 1) = ((k + 1 : Nat) : Int) := (wrap_id (by omega)).trans (by omega)
  have hvk : ((List.range k).map fun (h : Nat) => (rpV l h tick).1).length = k := by rw [List.length_map, List.length_range]
  refine ⟨?_⟩
  simp (config := { maxSteps := 4000000 }) only [↓sx0, ↓sx1, ↓sx2, ↓sx3, ↓sx4, ↓sx5, ↓sx6, sx0, sx1, sx2, sx3, sx4, sx5, sx6, tf31, ev3_hold, sxo, sxc, sxp, sxq, sxr, sxs, sxl, sxm, Int.reduceBEq, Int.reduceBNe, Int.reduceLT, Int.reduceLE, Int.reduceEq, Int.reduceGT, Int.reduceGE, Int.reduceToNat, ↓reduceIte, List.reduceReplicate, Nat.reduceAdd, Nat.reduceSub, Nat.reduceMul, Nat.reduceLT, Nat.reduceLeDiff, Nat.reduceBEq, Nat.reduceEqDiff, e7, det0]
  refine CallOb.pureH (fun w' hp' => answer_fn w' k tick _ l (hs.hp (fun _ _ => id) hp') hb) ?_
  rintro r N2 rfl
  refine ⟨?_⟩
  simp (config := { maxSteps := 4000000 }) only [↓sx0, ↓sx1, ↓sx2, ↓sx3, ↓sx4, ↓sx5, ↓sx6, sx0, sx1, sx2, sx3, sx4, sx5, sx6, tf31, ev3_hold, sxo, sxc, sxp, sxq, sxr, sxs, sxl, sxm, Int.reduceBEq, Int.reduceBNe, Int.reduceLT, Int.reduceLE, Int.reduceEq, Int.reduceGT, Int.reduceGE, Int.reduceToNat, ↓reduceIte, List.reduceReplicate, Nat.reduceAdd, Nat.reduceSub, Nat.reduceMul, Nat.reduceLT, Nat.reduceLeDiff, Nat.reduceBEq, Nat.reduceEqDiff]
  intro b
  refine app_one (l := (List.range k).map fun (h : Nat) => (rpV l h tick).1) (rpV l k tick).1 (HImp.app _ _ _) i1_len i1_one (bytes := 8) (by rw [hvk]; omega) ?_
  rintro oa' oc'
  rw [hvk]
  simp (config := { maxSteps := 4000000 }) only [↓sx0, ↓sx1, ↓sx2, ↓sx3, ↓sx4, ↓sx5, ↓sx6, sx0, sx1, sx2, sx3, sx4, sx5, sx6, tf31, ev3_hold, sxo, sxc, sxp, sxq, sxr, sxs, sxl, sxm, Int.reduceBEq, Int.reduceBNe, Int.reduceLT, Int.reduceLE, Int.reduceEq, Int.reduceGT, Int.reduceGE, Int.reduceToNat, ↓reduceIte, List.reduceReplicate, Nat.reduceAdd, Nat.reduceSub, Nat.reduceMul, Nat.reduceLT, Nat.reduceLeDiff, Nat.reduceBEq, Nat.reduceEqDiff, e2]
  refine ⟨(k + 1, some oa', oc'), _, ⟨rfl, rfl⟩, HImp.refl _ _, ⟨⟨by simp only; omega, fun h => by cases h⟩, ?_⟩, by simp only; omega⟩
  simp only [List.range_succ, List.map_append, List.map_cons, List.map_nil]

theorem ragain_fn (w : World) (hands tick every : Int) (v : Value) (l : List Pg) (hs : Sl w v 3 (cat pgc l)) (hb : l.length ≤ 1099511627776) :
    SX.Fn Try.prog 33 [I hands, v, I tick, I every] w (fun _ => False) fun r N => ∃ x, r = .tuple #[x, I (againN hands tick every l)] ∧ Got x 3 1 i1 (if againN hands tick every l = 0 then raL tick every (fun h => rpV l h tick) hands.toNat else []) N := by
  obtain ⟨a, n, c, rfl⟩ := hs.shape
  unfold againN
  cases c0 : inB every 1 100 with
  | false =>
    refine walk [] [] (detA_ok _ _) Try.func33 rfl Try.ntmps33 res33 (by kernel_rfl) no_facts ?_
    simp (config := { maxSteps := 4000000 }) only [↓sx0, ↓sx1, ↓sx2, ↓sx3, ↓sx4, ↓sx5, ↓sx6, sx0, sx1, sx2, sx3, sx4, sx5, sx6, tf33, ev3_hold, sxo, sxc, sxp, sxq, sxr, sxs, sxl, sxm, Int.reduceBEq, Int.reduceBNe, Int.reduceLT, Int.reduceLE, Int.reduceEq, Int.reduceGT, Int.reduceGE, Int.reduceToNat, ↓reduceIte, List.reduceReplicate, Nat.reduceAdd, Nat.reduceSub, Nat.reduceMul, Nat.reduceLT, Nat.reduceLeDiff, Nat.reduceBEq, Nat.reduceEqDiff, detA_eq, c0]
    exact ⟨_, rfl, Got.nil _⟩
  | true =>
  rw [if_pos rfl]
  have dn : (∀ xs, detA 29 xs = none) ∧ (∀ xs, detA 64 xs = none) := ⟨fun _ => rfl, fun _ => rfl⟩
  by_cases h0 : pagedN hands tick l = 0
  case neg =>
    have e0 : (pagedN hands tick l = 0) = False := eq_false h0
    rw [if_neg h0]
    refine walk [] [] (detA_ok _ _) Try.func33 rfl Try.ntmps33 res33 (by kernel_rfl) no_facts ?_
    simp (config := { maxSteps := 4000000 }) only [↓sx0, ↓sx1, ↓sx2, ↓sx3, ↓sx4, ↓sx5, ↓sx6, sx0, sx1, sx2, sx3, sx4, sx5, sx6, tf33, ev3_hold, sxo, sxc, sxp, sxq, sxr, sxs, sxl, sxm, Int.reduceBEq, Int.reduceBNe, Int.reduceLT, Int.reduceLE, Int.reduceEq, Int.reduceGT, Int.reduceGE, Int.reduceToNat, ↓reduceIte, List.reduceReplicate, Nat.reduceAdd, Nat.reduceSub, Nat.reduceMul, Nat.reduceLT, Nat.reduceLeDiff, Nat.reduceBEq, Nat.reduceEqDiff, detA_eq, c0, dn]
    refine CallOb.pureH (fun w' hp' => rcheckP_fn w' hands tick _ l (hs.hp (fun _ _ => id) hp')) ?_
    rintro r N rfl
    refine ⟨?_⟩
    simp (config := { maxSteps := 4000000 }) only [↓sx0, ↓sx1, ↓sx2, ↓sx3, ↓sx4, ↓sx5, ↓sx6, sx0, sx1, sx2, sx3, sx4, sx5, sx6, tf33, ev3_hold, sxo, sxc, sxp, sxq, sxr, sxs, sxl, sxm, Int.reduceBEq, Int.reduceBNe, Int.reduceLT, Int.reduceLE, Int.reduceEq, Int.reduceGT, Int.reduceGE, Int.reduceToNat, ↓reduceIte, List.reduceReplicate, Nat.reduceAdd, Nat.reduceSub, Nat.reduceMul, Nat.reduceLT, Nat.reduceLeDiff, Nat.reduceBEq, Nat.reduceEqDiff, e0]
    exact ⟨_, rfl, Got.nil _⟩
  have e0 : (pagedN hands tick l = 0) = True := eq_true h0
  rw [if_pos h0]
  obtain ⟨hk0, hok⟩ := pagedN_zero h0
  obtain ⟨h1, h2, _, h4⟩ := keptN_zero hk0
  have htick := h4 tick (by simp)
  have hev := (inB_iff _ _ _).1 c0
  obtain ⟨m, rfl⟩ : ∃ m : Nat, hands = m := ⟨hands.toNat, by omega⟩
  rw [Int.toNat_natCast]
  refine walk [] [] (detA_ok _ _) Try.func33 rfl Try.ntmps33 res33 (by kernel_rfl) no_facts ?_
  simp (config := { maxSteps := 4000000 }) only [↓sx0, ↓sx1, ↓sx2, ↓sx3, ↓sx4, ↓sx5, ↓sx6, sx0, sx1, sx2, sx3, sx4, sx5, sx6, tf33, ev3_hold, sxo, sxc, sxp, sxq, sxr, sxs, sxl, sxm, Int.reduceBEq, Int.reduceBNe, Int.reduceLT, Int.reduceLE, Int.reduceEq, Int.reduceGT, Int.reduceGE, Int.reduceToNat, ↓reduceIte, List.reduceReplicate, Nat.reduceAdd, Nat.reduceSub, Nat.reduceMul, Nat.reduceLT, Nat.reduceLeDiff, Nat.reduceBEq, Nat.reduceEqDiff, detA_eq, c0, dn]
  refine CallOb.pureH (fun w' hp' => rcheckP_fn w' m tick _ l (hs.hp (fun _ _ => id) hp')) ?_
  rintro r N rfl
  refine ⟨?_⟩
  simp (config := { maxSteps := 4000000 }) only [↓sx0, ↓sx1, ↓sx2, ↓sx3, ↓sx4, ↓sx5, ↓sx6, sx0, sx1, sx2, sx3, sx4, sx5, sx6, tf33, ev3_hold, sxo, sxc, sxp, sxq, sxr, sxs, sxl, sxm, Int.reduceBEq, Int.reduceBNe, Int.reduceLT, Int.reduceLE, Int.reduceEq, Int.reduceGT, Int.reduceGE, Int.reduceToNat, ↓reduceIte, List.reduceReplicate, Nat.reduceAdd, Nat.reduceSub, Nat.reduceMul, Nat.reduceLT, Nat.reduceLeDiff, Nat.reduceBEq, Nat.reduceEqDiff, e0]
  refine loop_constH [.row (.slice none 0 0) 3 1 []] ((HImp.nilRow _ _ _ _).trans (HImp.sub ((List.nil_sublist _).cons_cons _))) [(11, 14), (25, 53)] (fun x : Nat × Option Addr × Nat => [(11, .slice x.2.1 (raL tick every (fun h => rpV l h tick) x.1).length x.2.2), (12, I x.1)])
    (fun x H1 => (x.1 ≤ m ∧ (x.2.1 = none → raL tick every (fun h => rpV l h tick) x.1 = [])) ∧ H1 = [.row (.slice x.2.1 (raL tick every (fun h => rpV l h tick) x.1).length x.2.2) 3 1 (ints (raL tick every (fun h => rpV l h tick) x.1))]) (fun x => m - x.1) (0, none, 0) ?_ ⟨⟨Nat.zero_le _, fun _ => rfl⟩, rfl⟩ ?_
  · simp (config := { maxSteps := 4000000 }) only [↓sx0, ↓sx1, ↓sx2, ↓sx3, ↓sx4, ↓sx5, ↓sx6, sx0, sx1, sx2, sx3, sx4, sx5, sx6, tf33, ev3_hold, sxo, sxc, sxp, sxq, sxr, sxs, sxl, sxm, Int.reduceBEq, Int.reduceBNe, Int.reduceLT, Int.reduceLE, Int.reduceEq, Int.reduceGT, Int.reduceGE, Int.reduceToNat, ↓reduceIte, List.reduceReplicate, Nat.reduceAdd, Nat.reduceSub, Nat.reduceMul, Nat.reduceLT, Nat.reduceLeDiff, Nat.reduceBEq, Nat.reduceEqDiff]
    exact ⟨rfl, rfl⟩
  rintro ⟨k, oa, oc⟩ H1 g1 ⟨⟨hk, ho⟩, rfl⟩
  simp only at hk ho
  by_cases hkn : k = m
  · have e7 : ((k : Int) < (m : Int)) = False := eq_false (by omega)
    subst hkn
    refine ⟨?_⟩
    simp (config := { maxSteps := 4000000 }) only [↓sx0, ↓sx1, ↓sx2, ↓sx3, ↓sx4, ↓sx5, ↓sx6, sx0, sx1, sx2, sx3, sx4, sx5, sx6, tf33, ev3_hold, sxo, sxc, sxp, sxq, sxr, sxs, sxl, sxm, Int.reduceBEq, Int.reduceBNe, Int.reduceLT, Int.reduceLE, Int.reduceEq, Int.reduceGT, Int.reduceGE, Int.reduceToNat, ↓reduceIte, List.reduceReplicate, Nat.reduceAdd, Nat.reduceSub, Nat.reduceMul, Nat.reduceLT, Nat.reduceLeDiff, Nat.reduceBEq, Nat.reduceEqDiff, e7]
    exact ⟨_, by rw [h0], Got.row rfl List.mem_cons_self ho⟩
  have e7 : ((k : Int) < (m : Int)) = True := eq_true (by omega)
  have e2 : wr (k + 1) = ((k + 1 : Nat) : Int) := (wrap_id (by omega)).trans (by omega)
  have hsu := raL_succ tick every (fun h => rpV l h tick) k
  have hlk := raL_len tick every (fun h => rpV l h tick) k
  have hin : rsIn (rpV l k tick) := rpF_in k tick l _ (pgOk_tick hok) (.inl rfl)
  generalize raL tick every (fun h => rpV l h tick) k = out at hsu hlk ho
  generalize hy : rpV l k tick = y at hsu hin
  obtain ⟨yo, ys⟩ := y
  unfold rsIn at hin
  simp only at hin
  have e3 : wr (tick - ys) = tick - ys := wrap_id (by omega)
  have hno : raB tick every (yo, ys) = false → raL tick every (fun h => rpV l h tick) (k + 1) = out := fun h => by
    rw [hsu, h]; simp
  have hyes : raB tick every (yo, ys) = true → raL tick every (fun h => rpV l h tick) (k + 1) = out ++ [(k : Int)] := fun h => by
    rw [hsu, h]; simp
  by_cases c1 : yo = 0
  case neg =>
    have p1 : (yo = 0) = False := eq_false c1
    have hh := hno (by simp [raB, c1])
    refine ⟨?_⟩
    simp (config := { maxSteps := 4000000 }) only [↓sx0, ↓sx1, ↓sx2, ↓sx3, ↓sx4, ↓sx5, ↓sx6, sx0, sx1, sx2, sx3, sx4, sx5, sx6, tf33, ev3_hold, sxo, sxc, sxp, sxq, sxr, sxs, sxl, sxm, Int.reduceBEq, Int.reduceBNe, Int.reduceLT, Int.reduceLE, Int.reduceEq, Int.reduceGT, Int.reduceGE, Int.reduceToNat, ↓reduceIte, List.reduceReplicate, Nat.reduceAdd, Nat.reduceSub, Nat.reduceMul, Nat.reduceLT, Nat.reduceLeDiff, Nat.reduceBEq, Nat.reduceEqDiff, e7, dn]
    refine CallOb.pureH (fun w' hp' => answer_fn w' k tick _ l (hs.hp (fun _ _ => id) hp') hb) ?_
    rintro r N2 rfl
    rw [hy]
    refine ⟨?_⟩
    simp (config := { maxSteps := 4000000 }) only [↓sx0, ↓sx1, ↓sx2, ↓sx3, ↓sx4, ↓sx5, ↓sx6, sx0, sx1, sx2, sx3, sx4, sx5, sx6, tf33, ev3_hold, sxo, sxc, sxp, sxq, sxr, sxs, sxl, sxm, Int.reduceBEq, Int.reduceBNe, Int.reduceLT, Int.reduceLE, Int.reduceEq, Int.reduceGT, Int.reduceGE, Int.reduceToNat, ↓reduceIte, List.reduceReplicate, Nat.reduceAdd, Nat.reduceSub, Nat.reduceMul, Nat.reduceLT, Nat.reduceLeDiff, Nat.reduceBEq, Nat.reduceEqDiff, p1, e2]
    exact ⟨(k + 1, oa, oc), _, ⟨by simp only [hh], rfl⟩, HImp.app _ _ _, ⟨⟨by simp only; omega, by simp only [hh]; exact ho⟩, by simp only [hh]⟩, by simp only; omega⟩
  subst c1
  have yes : raB tick every (0, ys) = true → ∀ (oa' : Addr) (oc' : Nat), True := fun _ _ _ => trivial
  by_cases c2 : ys = -1000
  · have p2 : (ys = -1000) = True := eq_true c2
    have hh := hyes (by simp [raB, c2])
    refine ⟨?_⟩
    simp (config := { maxSteps := 4000000 }) only [↓sx0, ↓sx1, ↓sx2, ↓sx3, ↓sx4, ↓sx5, ↓sx6, sx0, sx1, sx2, sx3, sx4, sx5, sx6, tf33, ev3_hold, sxo, sxc, sxp, sxq, sxr, sxs, sxl, sxm, Int.reduceBEq, Int.reduceBNe, Int.reduceLT, Int.reduceLE, Int.reduceEq, Int.reduceGT, Int.reduceGE, Int.reduceToNat, ↓reduceIte, List.reduceReplicate, Nat.reduceAdd, Nat.reduceSub, Nat.reduceMul, Nat.reduceLT, Nat.reduceLeDiff, Nat.reduceBEq, Nat.reduceEqDiff, e7, dn]
    refine CallOb.pureH (fun w' hp' => answer_fn w' k tick _ l (hs.hp (fun _ _ => id) hp') hb) ?_
    rintro r N2 rfl
    rw [hy]
    refine ⟨?_⟩
    simp (config := { maxSteps := 4000000 }) only [↓sx0, ↓sx1, ↓sx2, ↓sx3, ↓sx4, ↓sx5, ↓sx6, sx0, sx1, sx2, sx3, sx4, sx5, sx6, tf33, ev3_hold, sxo, sxc, sxp, sxq, sxr, sxs, sxl, sxm, Int.reduceBEq, Int.reduceBNe, Int.reduceLT, Int.reduceLE, Int.reduceEq, Int.reduceGT, Int.reduceGE, Int.reduceToNat, ↓reduceIte, List.reduceReplicate, Nat.reduceAdd, Nat.reduceSub, Nat.reduceMul, Nat.reduceLT, Nat.reduceLeDiff, Nat.reduceBEq, Nat.reduceEqDiff, p2]
    intro b
    refine app_one (l := out) (k : Int) (HImp.app _ _ _) i1_len i1_one (bytes := 8) (by omega) ?_
    rintro oa' oc'
    simp (config := { maxSteps := 4000000 }) only [↓sx0, ↓sx1, ↓sx2, ↓sx3, ↓sx4, ↓sx5, ↓sx6, sx0, sx1, sx2, sx3, sx4, sx5, sx6, tf33, ev3_hold, sxo, sxc, sxp, sxq, sxr, sxs, sxl, sxm, Int.reduceBEq, Int.reduceBNe, Int.reduceLT, Int.reduceLE, Int.reduceEq, Int.reduceGT, Int.reduceGE, Int.reduceToNat, ↓reduceIte, List.reduceReplicate, Nat.reduceAdd, Nat.reduceSub, Nat.reduceMul, Nat.reduceLT, Nat.reduceLeDiff, Nat.reduceBEq, Nat.reduceEqDiff, e2]
    exact ⟨(k + 1, some oa', oc'), _, ⟨by simp only [hh, List.length_append, List.length_cons, List.length_nil], rfl⟩, HImp.refl _ _, ⟨⟨by simp only; omega, (fun h => by cases h)⟩, by simp only [hh, List.length_append, List.length_cons, List.length_nil]⟩, by simp only; omega⟩
  have p2 : (ys = -1000) = False := eq_false c2
  by_cases c3 : tick - ys ≥ every
  · have p3 : (tick - ys ≥ every) = True := eq_true c3
    have hh := hyes (by simp [raB, c3])
    refine ⟨?_⟩
    simp (config := { maxSteps := 4000000 }) only [↓sx0, ↓sx1, ↓sx2, ↓sx3, ↓sx4, ↓sx5, ↓sx6, sx0, sx1, sx2, sx3, sx4, sx5, sx6, tf33, ev3_hold, sxo, sxc, sxp, sxq, sxr, sxs, sxl, sxm, Int.reduceBEq, Int.reduceBNe, Int.reduceLT, Int.reduceLE, Int.reduceEq, Int.reduceGT, Int.reduceGE, Int.reduceToNat, ↓reduceIte, List.reduceReplicate, Nat.reduceAdd, Nat.reduceSub, Nat.reduceMul, Nat.reduceLT, Nat.reduceLeDiff, Nat.reduceBEq, Nat.reduceEqDiff, e7, dn]
    refine CallOb.pureH (fun w' hp' => answer_fn w' k tick _ l (hs.hp (fun _ _ => id) hp') hb) ?_
    rintro r N2 rfl
    rw [hy]
    refine ⟨?_⟩
    simp (config := { maxSteps := 4000000 }) only [↓sx0, ↓sx1, ↓sx2, ↓sx3, ↓sx4, ↓sx5, ↓sx6, sx0, sx1, sx2, sx3, sx4, sx5, sx6, tf33, ev3_hold, sxo, sxc, sxp, sxq, sxr, sxs, sxl, sxm, Int.reduceBEq, Int.reduceBNe, Int.reduceLT, Int.reduceLE, Int.reduceEq, Int.reduceGT, Int.reduceGE, Int.reduceToNat, ↓reduceIte, List.reduceReplicate, Nat.reduceAdd, Nat.reduceSub, Nat.reduceMul, Nat.reduceLT, Nat.reduceLeDiff, Nat.reduceBEq, Nat.reduceEqDiff, p2, e3, p3]
    intro b
    refine app_one (l := out) (k : Int) (HImp.app _ _ _) i1_len i1_one (bytes := 8) (by omega) ?_
    rintro oa' oc'
    simp (config := { maxSteps := 4000000 }) only [↓sx0, ↓sx1, ↓sx2, ↓sx3, ↓sx4, ↓sx5, ↓sx6, sx0, sx1, sx2, sx3, sx4, sx5, sx6, tf33, ev3_hold, sxo, sxc, sxp, sxq, sxr, sxs, sxl, sxm, Int.reduceBEq, Int.reduceBNe, Int.reduceLT, Int.reduceLE, Int.reduceEq, Int.reduceGT, Int.reduceGE, Int.reduceToNat, ↓reduceIte, List.reduceReplicate, Nat.reduceAdd, Nat.reduceSub, Nat.reduceMul, Nat.reduceLT, Nat.reduceLeDiff, Nat.reduceBEq, Nat.reduceEqDiff, e2]
    exact ⟨(k + 1, some oa', oc'), _, ⟨by simp only [hh, List.length_append, List.length_cons, List.length_nil], rfl⟩, HImp.refl _ _, ⟨⟨by simp only; omega, (fun h => by cases h)⟩, by simp only [hh, List.length_append, List.length_cons, List.length_nil]⟩, by simp only; omega⟩
  · have p3 : (tick - ys ≥ every) = False := eq_false c3
    have hh := hno (by simp [raB, c2, c3])
    refine ⟨?_⟩
    simp (config := { maxSteps := 4000000 }) only [↓sx0, ↓sx1, ↓sx2, ↓sx3, ↓sx4, ↓sx5, ↓sx6, sx0, sx1, sx2, sx3, sx4, sx5, sx6, tf33, ev3_hold, sxo, sxc, sxp, sxq, sxr, sxs, sxl, sxm, Int.reduceBEq, Int.reduceBNe, Int.reduceLT, Int.reduceLE, Int.reduceEq, Int.reduceGT, Int.reduceGE, Int.reduceToNat, ↓reduceIte, List.reduceReplicate, Nat.reduceAdd, Nat.reduceSub, Nat.reduceMul, Nat.reduceLT, Nat.reduceLeDiff, Nat.reduceBEq, Nat.reduceEqDiff, e7, dn]
    refine CallOb.pureH (fun w' hp' => answer_fn w' k tick _ l (hs.hp (fun _ _ => id) hp') hb) ?_
    rintro r N2 rfl
    rw [hy]
    refine ⟨?_⟩
    simp (config := { maxSteps := 4000000 }) only [↓sx0, ↓sx1, ↓sx2, ↓sx3, ↓sx4, ↓sx5, ↓sx6, sx0, sx1, sx2, sx3, sx4, sx5, sx6, tf33, ev3_hold, sxo, sxc, sxp, sxq, sxr, sxs, sxl, sxm, Int.reduceBEq, Int.reduceBNe, Int.reduceLT, Int.reduceLE, Int.reduceEq, Int.reduceGT, Int.reduceGE, Int.reduceToNat, ↓reduceIte, List.reduceReplicate, Nat.reduceAdd, Nat.reduceSub, Nat.reduceMul, Nat.reduceLT, Nat.reduceLeDiff, Nat.reduceBEq, Nat.reduceEqDiff, p2, e3, p3, e2]
    exact ⟨(k + 1, oa, oc), _, ⟨by simp only [hh], rfl⟩, HImp.app _ _ _, ⟨⟨by simp only; omega, by simp only [hh]; exact ho⟩, by simp only [hh]⟩, by simp only; omega⟩

end Go.Proofs.Ytlbcgkoncnablaa
