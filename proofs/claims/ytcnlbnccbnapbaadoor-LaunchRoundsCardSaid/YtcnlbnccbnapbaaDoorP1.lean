/- Parts of a proof: the symbolic walk and what it shows of single functions. -/
import Derived.Test.YtcnlbnccbnapbaaDoorC5
import Derived.Test.YtcnlbnccbnapbaaDoorX3
set_option linter.all false
namespace Go.Proofs.YtcnlbnccbnapbaaDoor
open Go.RowKit Go.SX
set_option maxRecDepth 10000
set_option maxHeartbeats 4000000
set_option linter.unusedSimpArgs false
set_option linter.unusedVariables false
structure Cls where
  draught : Int
  seas : Int
  move : Int
  idle : Int
  reserve : Int
  seats : Int
  moment : Int
def clv (b : Cls) : Value := .agg #[I b.draught, I b.seas, I b.move, I b.idle, I b.reserve, I b.seats, I b.moment]
def toldL (b : Cls) : List Bool := [inB b.draught 1 100, inB b.seas 0 100, inB b.move 1 100, inB b.idle 0 b.move, inB b.reserve 0 5000, inB b.seats 0 40, inB b.moment 0 1000000]
def clsB (b : Cls) : Bool := (toldL b).all id
theorem clsB_iff (b : Cls) : clsB b = true ↔ (1 ≤ b.draught ∧ b.draught ≤ 100) ∧ (0 ≤ b.seas ∧ b.seas ≤ 100) ∧ (1 ≤ b.move ∧ b.move ≤ 100) ∧ (0 ≤ b.idle ∧ b.idle ≤ b.move) ∧ (0 ≤ b.reserve ∧ b.reserve ≤ 5000) ∧ (0 ≤ b.seats ∧ b.seats ≤ 40) ∧ 0 ≤ b.moment ∧ b.moment ≤ 1000000 := by
  unfold clsB toldL
  simp only [List.all_cons, List.all_nil, id_eq, Bool.and_true, Bool.and_eq_true, inB_iff]
theorem within5_fn (w : World) (n l h : Int) : SX.Fn Tryd.prog 46 [I n, I l, I h] w (fun _ => False) fun v N => v = .bool (inB n l h) := by
  refine walk [] [] (det0_ok _ _) Tryd.func46 rfl Tryd.ntmps46 res46 (by kernel_rfl) no_facts ?_
  simp (config := { maxSteps := 4000000 }) only [↓sx0, ↓sx1, ↓sx2, ↓sx3, ↓sx4, ↓sx5, ↓sx6, sx0, sx1, sx2, sx3, sx4, sx5, sx6, tf46, ev3_hold, sxo, sxc, sxp, sxq, sxr, sxs, sxl, sxm, Int.reduceBEq, Int.reduceBNe, Int.reduceLT, Int.reduceLE, Int.reduceEq, Int.reduceGT, Int.reduceGE, Int.reduceToNat, ↓reduceIte, List.reduceReplicate, Nat.reduceAdd, Nat.reduceSub, Nat.reduceMul, Nat.reduceLT, Nat.reduceLeDiff, Nat.reduceBEq, Nat.reduceEqDiff]
  unfold inB
  exact ⟨fun h1 => by simp [h1], fun h1 => by simp [h1]⟩
theorem from5_fn (w : World) (n l h : Int) : SX.Fn Tryd.prog 60 [I n, I l, I h] w (fun _ => False) fun v N => v = .bool (inB n l h) := by
  refine walk [] [] (det0_ok _ _) Tryd.func60 rfl Tryd.ntmps60 res60 (by kernel_rfl) no_facts ?_
  simp (config := { maxSteps := 4000000 }) only [↓sx0, ↓sx1, ↓sx2, ↓sx3, ↓sx4, ↓sx5, ↓sx6, sx0, sx1, sx2, sx3, sx4, sx5, sx6, tf60, ev3_hold, sxo, sxc, sxp, sxq, sxr, sxs, sxl, sxm, Int.reduceBEq, Int.reduceBNe, Int.reduceLT, Int.reduceLE, Int.reduceEq, Int.reduceGT, Int.reduceGE, Int.reduceToNat, ↓reduceIte, List.reduceReplicate, Nat.reduceAdd, Nat.reduceSub, Nat.reduceMul, Nat.reduceLT, Nat.reduceLeDiff, Nat.reduceBEq, Nat.reduceEqDiff]
  unfold inB
  exact ⟨fun h1 => by simp [h1], fun h1 => by simp [h1]⟩
def detQ : Nat → List Value → Option Value
  | 46, [.int .i64 n, .int .i64 l, .int .i64 h] => some (.bool (inB n l h))
  | 60, [.int .i64 n, .int .i64 l, .int .i64 h] => some (.bool (inB n l h))
  | g, xs => detC g xs
theorem detQ_ok (w0 : World) (X : Nat → Prop) : DetFn Tryd.prog ⟨w0, X⟩ detQ := by
  intro g args v h w hk
  unfold detQ at h
  split at h
  · cases h
    exact det_of_fn (within5_fn w _ _ _)
  · cases h
    exact det_of_fn (from5_fn w _ _ _)
  · exact detC_ok w0 X _ _ _ h w hk
theorem detQ_eq : (∀ n l h : Int, detQ 46 [I n, I l, I h] = some (.bool (inB n l h))) ∧ (∀ n l h : Int, detQ 60 [I n, I l, I h] = some (.bool (inB n l h))) ∧ (∀ n, detQ 63 [I n] = some (.bool (inB n 1 100))) := ⟨fun _ _ _ => rfl, fun _ _ _ => rfl, fun _ => rfl⟩
theorem indexB_fn (w : World) (v : Value) (l : List Bool) (x : Bool) (hs : Sl w v 1 (bools l)) (hb : l.length ≤ 1000000) : SX.Fn Tryd.prog 93 [v, .bool x] w (fun _ => False) fun r N => ∃ n : Int, r = I n ∧ decide (n ≥ 0) = l.any (· == x) := by
  obtain ⟨a, n, c, rfl⟩ := hs.shape
  have hn := hs.le b1_len (by omega)
  subst hn
  have hr := hs.rd0
  refine walk [] [] (det0_ok _ _) Tryd.func93 rfl Tryd.ntmps93 res93 (by kernel_rfl) no_facts ?_
  simp (config := { maxSteps := 4000000 }) only [↓sx0, ↓sx1, ↓sx2, ↓sx3, ↓sx4, ↓sx5, ↓sx6, sx0, sx1, sx2, sx3, sx4, sx5, sx6, tf93, ev3_hold, sxo, sxc, sxp, sxq, sxr, sxs, sxl, sxm, Int.reduceBEq, Int.reduceBNe, Int.reduceLT, Int.reduceLE, Int.reduceEq, Int.reduceGT, Int.reduceGE, Int.reduceToNat, ↓reduceIte, List.reduceReplicate, Nat.reduceAdd, Nat.reduceSub, Nat.reduceMul, Nat.reduceLT, Nat.reduceLeDiff, Nat.reduceBEq, Nat.reduceEqDiff]
  refine loop_constH [] (HImp.nil _ _) [(4, 5), (8, 18)] (fun i : Nat => [(8, I i)]) (fun i H1 => i ≤ l.length ∧ l.any (· == x) = (l.drop i).any (· == x)) (fun i => l.length - i) 0 ?_ ⟨Nat.zero_le _, rfl⟩ ?_
  · simp (config := { maxSteps := 4000000 }) only [↓sx0, ↓sx1, ↓sx2, ↓sx3, ↓sx4, ↓sx5, ↓sx6, sx0, sx1, sx2, sx3, sx4, sx5, sx6, tf93, ev3_hold, sxo, sxc, sxp, sxq, sxr, sxs, sxl, sxm, Int.reduceBEq, Int.reduceBNe, Int.reduceLT, Int.reduceLE, Int.reduceEq, Int.reduceGT, Int.reduceGE, Int.reduceToNat, ↓reduceIte, List.reduceReplicate, Nat.reduceAdd, Nat.reduceSub, Nat.reduceMul, Nat.reduceLT, Nat.reduceLeDiff, Nat.reduceBEq, Nat.reduceEqDiff]
    try simp
  rintro i H1 g1 ⟨hi, hinv⟩
  by_cases hin : i = l.length
  · have e7 : ((i : Int) < (l.length : Int)) = False := eq_false (by omega)
    rw [List.drop_of_length_le (by omega), List.any_nil] at hinv
    rw [hinv]
    refine ⟨?_⟩
    simp (config := { maxSteps := 4000000 }) only [↓sx0, ↓sx1, ↓sx2, ↓sx3, ↓sx4, ↓sx5, ↓sx6, sx0, sx1, sx2, sx3, sx4, sx5, sx6, tf93, ev3_hold, sxo, sxc, sxp, sxq, sxr, sxs, sxl, sxm, Int.reduceBEq, Int.reduceBNe, Int.reduceLT, Int.reduceLE, Int.reduceEq, Int.reduceGT, Int.reduceGE, Int.reduceToNat, ↓reduceIte, List.reduceReplicate, Nat.reduceAdd, Nat.reduceSub, Nat.reduceMul, Nat.reduceLT, Nat.reduceLeDiff, Nat.reduceBEq, Nat.reduceEqDiff, e7]
    exact ⟨-1, rfl, by simp⟩
  have e7 : ((i : Int) < (l.length : Int)) = True := eq_true (by omega)
  have e2 : wr (i + 1) = ((i + 1 : Nat) : Int) := (wrap_id (by omega)).trans (by omega)
  have hil : i < l.length := by omega
  have hu := List.getElem?_eq_getElem hil
  rw [List.drop_eq_getElem_cons hil, List.any_cons] at hinv
  generalize l[i] = y at hu hinv
  refine ⟨?_⟩
  simp (config := { maxSteps := 4000000 }) only [↓sx0, ↓sx1, ↓sx2, ↓sx3, ↓sx4, ↓sx5, ↓sx6, sx0, sx1, sx2, sx3, sx4, sx5, sx6, tf93, ev3_hold, sxo, sxc, sxp, sxq, sxr, sxs, sxl, sxm, Int.reduceBEq, Int.reduceBNe, Int.reduceLT, Int.reduceLE, Int.reduceEq, Int.reduceGT, Int.reduceGE, Int.reduceToNat, ↓reduceIte, List.reduceReplicate, Nat.reduceAdd, Nat.reduceSub, Nat.reduceMul, Nat.reduceLT, Nat.reduceLeDiff, Nat.reduceBEq, Nat.reduceEqDiff, e7]
  refine amid (at_1 (hr _) b1_len hu rfl fun ad1 => ?_)
  cases x <;> cases y
  · simp (config := { maxSteps := 4000000 }) only [↓sx0, ↓sx1, ↓sx2, ↓sx3, ↓sx4, ↓sx5, ↓sx6, sx0, sx1, sx2, sx3, sx4, sx5, sx6, tf93, ev3_hold, sxo, sxc, sxp, sxq, sxr, sxs, sxl, sxm, Int.reduceBEq, Int.reduceBNe, Int.reduceLT, Int.reduceLE, Int.reduceEq, Int.reduceGT, Int.reduceGE, Int.reduceToNat, ↓reduceIte, List.reduceReplicate, Nat.reduceAdd, Nat.reduceSub, Nat.reduceMul, Nat.reduceLT, Nat.reduceLeDiff, Nat.reduceBEq, Nat.reduceEqDiff]
    exact ⟨i, rfl, by rw [hinv]; simp⟩
  · simp (config := { maxSteps := 4000000 }) only [↓sx0, ↓sx1, ↓sx2, ↓sx3, ↓sx4, ↓sx5, ↓sx6, sx0, sx1, sx2, sx3, sx4, sx5, sx6, tf93, ev3_hold, sxo, sxc, sxp, sxq, sxr, sxs, sxl, sxm, Int.reduceBEq, Int.reduceBNe, Int.reduceLT, Int.reduceLE, Int.reduceEq, Int.reduceGT, Int.reduceGE, Int.reduceToNat, ↓reduceIte, List.reduceReplicate, Nat.reduceAdd, Nat.reduceSub, Nat.reduceMul, Nat.reduceLT, Nat.reduceLeDiff, Nat.reduceBEq, Nat.reduceEqDiff, e2]
    exact ⟨i + 1, _, rfl, HImp.refl _ _, ⟨by omega, by simpa using hinv⟩, by omega⟩
  · simp (config := { maxSteps := 4000000 }) only [↓sx0, ↓sx1, ↓sx2, ↓sx3, ↓sx4, ↓sx5, ↓sx6, sx0, sx1, sx2, sx3, sx4, sx5, sx6, tf93, ev3_hold, sxo, sxc, sxp, sxq, sxr, sxs, sxl, sxm, Int.reduceBEq, Int.reduceBNe, Int.reduceLT, Int.reduceLE, Int.reduceEq, Int.reduceGT, Int.reduceGE, Int.reduceToNat, ↓reduceIte, List.reduceReplicate, Nat.reduceAdd, Nat.reduceSub, Nat.reduceMul, Nat.reduceLT, Nat.reduceLeDiff, Nat.reduceBEq, Nat.reduceEqDiff, e2]
    exact ⟨i + 1, _, rfl, HImp.refl _ _, ⟨by omega, by simpa using hinv⟩, by omega⟩
  · simp (config := { maxSteps := 4000000 }) only [↓sx0, ↓sx1, ↓sx2, ↓sx3, ↓sx4, ↓sx5, ↓sx6, sx0, sx1, sx2, sx3, sx4, sx5, sx6, tf93, ev3_hold, sxo, sxc, sxp, sxq, sxr, sxs, sxl, sxm, Int.reduceBEq, Int.reduceBNe, Int.reduceLT, Int.reduceLE, Int.reduceEq, Int.reduceGT, Int.reduceGE, Int.reduceToNat, ↓reduceIte, List.reduceReplicate, Nat.reduceAdd, Nat.reduceSub, Nat.reduceMul, Nat.reduceLT, Nat.reduceLeDiff, Nat.reduceBEq, Nat.reduceEqDiff]
    exact ⟨i, rfl, by rw [hinv]; simp⟩
theorem containsB_fn (w : World) (v : Value) (l : List Bool) (x : Bool) (hs : Sl w v 1 (bools l)) (hb : l.length ≤ 1000000) : SX.Fn Tryd.prog 62 [v, .bool x] w (fun _ => False) fun r N => r = .bool (l.any (· == x)) := by
  refine walk [] [] (det0_ok _ _) Tryd.func62 rfl Tryd.ntmps62 res62 (by kernel_rfl) no_facts ?_
  simp (config := { maxSteps := 4000000 }) only [↓sx0, ↓sx1, ↓sx2, ↓sx3, ↓sx4, ↓sx5, ↓sx6, sx0, sx1, sx2, sx3, sx4, sx5, sx6, tf62, ev3_hold, sxo, sxc, sxp, sxq, sxr, sxs, sxl, sxm, Int.reduceBEq, Int.reduceBNe, Int.reduceLT, Int.reduceLE, Int.reduceEq, Int.reduceGT, Int.reduceGE, Int.reduceToNat, ↓reduceIte, List.reduceReplicate, Nat.reduceAdd, Nat.reduceSub, Nat.reduceMul, Nat.reduceLT, Nat.reduceLeDiff, Nat.reduceBEq, Nat.reduceEqDiff, det0]
  refine CallOb.pureH (fun w' hp => indexB_fn w' v l x (hs.hp (fun _ _ => id) hp) hb) ?_
  rintro r N ⟨n, rfl, hn⟩
  refine ⟨?_⟩
  simp (config := { maxSteps := 4000000 }) only [↓sx0, ↓sx1, ↓sx2, ↓sx3, ↓sx4, ↓sx5, ↓sx6, sx0, sx1, sx2, sx3, sx4, sx5, sx6, tf62, ev3_hold, sxo, sxc, sxp, sxq, sxr, sxs, sxl, sxm, Int.reduceBEq, Int.reduceBNe, Int.reduceLT, Int.reduceLE, Int.reduceEq, Int.reduceGT, Int.reduceGE, Int.reduceToNat, ↓reduceIte, List.reduceReplicate, Nat.reduceAdd, Nat.reduceSub, Nat.reduceMul, Nat.reduceLT, Nat.reduceLeDiff, Nat.reduceBEq, Nat.reduceEqDiff, hn]
theorem cells_sl {w0 : Base} {H : List HO} {b n c : Nat} {T : TypeId} {cs : List Value} (h : HO.cells b T cs ∈ H) (hn : cs.length = n) {w : World} (hp : Hp w0 H w) : Sl w (.slice (some ((⟨b, 0, none⟩ : Addr).add 0)) n c) 1 cs := by
  refine ⟨_, _, _, rfl, by omega, fun i x hx => ⟨_, rfl, ?_⟩⟩
  rw [add_block, add_block, cell_of_cells (hp.ok _ h)]
  simpa using hx
def pl30_1 : Plan := (ones [0, 3, 6, 9, 11, 14, 17, 20] (.ld 1 (.ld 4 (.ld 7 (.ld 10 (.ld 12 (.ld 15 (.ld 18 (.ld 21 (.pre 24 (ones [2, 5, 8, 13, 16, 19, 22, 23, 24] (.kl 25 .fin))))))))))))
def pl30 : List (Nat × Plan) := [(1, pl30_1)]
theorem pl30_lk : (lkO 1 pl30 = some pl30_1) := rfl
theorem check5_fn (w : World) (b : Cls) : SX.Fn Tryd.prog 30 [clv b] w (fun _ => False) fun r N => r = I (if clsB b then 0 else 50) := by
  have ha : arT Tryd.prog 107 = some (7, 1, none) := by kernel_rfl
  unfold clv
  refine walk [3] pl30 (detQ_ok _ _) Tryd.func30 rfl Tryd.ntmps30 res30 (by kernel_rfl) no_facts ?_
  simp (config := { maxSteps := 4000000 }) only [↓sx0, ↓sx1, ↓sx2, ↓sx3, ↓sx4, ↓sx5, ↓sx6, sx0, sx1, sx2, sx3, sx4, sx5, sx6, tf30, ev3_hold, sxo, sxc, sxp, sxq, sxr, sxs, sxl, sxm, Int.reduceBEq, Int.reduceBNe, Int.reduceLT, Int.reduceLE, Int.reduceEq, Int.reduceGT, Int.reduceGE, Int.reduceToNat, ↓reduceIte, List.reduceReplicate, Nat.reduceAdd, Nat.reduceSub, Nat.reduceMul, Nat.reduceLT, Nat.reduceLeDiff, Nat.reduceBEq, Nat.reduceEqDiff, detQ_eq, pl30_lk, pl30_1]
  intro b1
  refine wr_cell (A := []) rfl (by simp) ?_
  simp (config := { maxSteps := 4000000 }) only [↓sx0, ↓sx1, ↓sx2, ↓sx3, ↓sx4, ↓sx5, ↓sx6, sx0, sx1, sx2, sx3, sx4, sx5, sx6, tf30, ev3_hold, sxo, sxc, sxp, sxq, sxr, sxs, sxl, sxm, Int.reduceBEq, Int.reduceBNe, Int.reduceLT, Int.reduceLE, Int.reduceEq, Int.reduceGT, Int.reduceGE, Int.reduceToNat, ↓reduceIte, List.reduceReplicate, Nat.reduceAdd, Nat.reduceSub, Nat.reduceMul, Nat.reduceLT, Nat.reduceLeDiff, Nat.reduceBEq, Nat.reduceEqDiff, ha, det0, List.take, List.drop, List.length_cons, List.length_nil, List.nil_append, pl30_lk, pl30_1]
  refine CallOb.pureH (fun w' hp => containsB_fn w' _ (toldL b) false (cells_sl (T := 107) (cs := bools (toldL b)) List.mem_cons_self rfl hp) (by simp [toldL])) ?_
  rintro r N rfl
  have hc : ((toldL b).any fun x => x == false) = !clsB b := by
    unfold clsB
    rw [List.all_eq_not_any_not, Bool.not_not]
    congr 1
    funext x
    cases x <;> rfl
  rw [hc]
  cases hB : clsB b with
  | true =>
    refine ⟨?_⟩
    simp (config := { maxSteps := 4000000 }) only [↓sx0, ↓sx1, ↓sx2, ↓sx3, ↓sx4, ↓sx5, ↓sx6, sx0, sx1, sx2, sx3, sx4, sx5, sx6, tf30, ev3_hold, sxo, sxc, sxp, sxq, sxr, sxs, sxl, sxm, Int.reduceBEq, Int.reduceBNe, Int.reduceLT, Int.reduceLE, Int.reduceEq, Int.reduceGT, Int.reduceGE, Int.reduceToNat, ↓reduceIte, List.reduceReplicate, Nat.reduceAdd, Nat.reduceSub, Nat.reduceMul, Nat.reduceLT, Nat.reduceLeDiff, Nat.reduceBEq, Nat.reduceEqDiff]
  | false =>
    refine ⟨?_⟩
    simp (config := { maxSteps := 4000000 }) only [↓sx0, ↓sx1, ↓sx2, ↓sx3, ↓sx4, ↓sx5, ↓sx6, sx0, sx1, sx2, sx3, sx4, sx5, sx6, tf30, ev3_hold, sxo, sxc, sxp, sxq, sxr, sxs, sxl, sxm, Int.reduceBEq, Int.reduceBNe, Int.reduceLT, Int.reduceLE, Int.reduceEq, Int.reduceGT, Int.reduceGE, Int.reduceToNat, ↓reduceIte, List.reduceReplicate, Nat.reduceAdd, Nat.reduceSub, Nat.reduceMul, Nat.reduceLT, Nat.reduceLeDiff, Nat.reduceBEq, Nat.reduceEqDiff]
theorem rcheck5_fn (w : World) (b : Cls) : SX.Fn Tryd.prog 31 [clv b] w (fun _ => False) fun r N => r = I (if clsB b then 0 else 50) := by
  unfold clv clsB toldL
  refine walk [] [] (detQ_ok _ _) Tryd.func31 rfl Tryd.ntmps31 res31 (by kernel_rfl) no_facts ?_
  cases h1 : inB b.draught 1 100 with
  | false =>
    simp (config := { maxSteps := 4000000 }) only [↓sx0, ↓sx1, ↓sx2, ↓sx3, ↓sx4, ↓sx5, ↓sx6, sx0, sx1, sx2, sx3, sx4, sx5, sx6, tf31, ev3_hold, sxo, sxc, sxp, sxq, sxr, sxs, sxl, sxm, Int.reduceBEq, Int.reduceBNe, Int.reduceLT, Int.reduceLE, Int.reduceEq, Int.reduceGT, Int.reduceGE, Int.reduceToNat, ↓reduceIte, List.reduceReplicate, Nat.reduceAdd, Nat.reduceSub, Nat.reduceMul, Nat.reduceLT, Nat.reduceLeDiff, Nat.reduceBEq, Nat.reduceEqDiff, detQ_eq, h1]
    rfl
  | true =>
  cases h2 : inB b.seas 0 100 with
  | false =>
    simp (config := { maxSteps := 4000000 }) only [↓sx0, ↓sx1, ↓sx2, ↓sx3, ↓sx4, ↓sx5, ↓sx6, sx0, sx1, sx2, sx3, sx4, sx5, sx6, tf31, ev3_hold, sxo, sxc, sxp, sxq, sxr, sxs, sxl, sxm, Int.reduceBEq, Int.reduceBNe, Int.reduceLT, Int.reduceLE, Int.reduceEq, Int.reduceGT, Int.reduceGE, Int.reduceToNat, ↓reduceIte, List.reduceReplicate, Nat.reduceAdd, Nat.reduceSub, Nat.reduceMul, Nat.reduceLT, Nat.reduceLeDiff, Nat.reduceBEq, Nat.reduceEqDiff, detQ_eq, h1, h2]
    rfl
  | true =>
  cases h3 : inB b.move 1 100 with
  | false =>
    simp (config := { maxSteps := 4000000 }) only [↓sx0, ↓sx1, ↓sx2, ↓sx3, ↓sx4, ↓sx5, ↓sx6, sx0, sx1, sx2, sx3, sx4, sx5, sx6, tf31, ev3_hold, sxo, sxc, sxp, sxq, sxr, sxs, sxl, sxm, Int.reduceBEq, Int.reduceBNe, Int.reduceLT, Int.reduceLE, Int.reduceEq, Int.reduceGT, Int.reduceGE, Int.reduceToNat, ↓reduceIte, List.reduceReplicate, Nat.reduceAdd, Nat.reduceSub, Nat.reduceMul, Nat.reduceLT, Nat.reduceLeDiff, Nat.reduceBEq, Nat.reduceEqDiff, detQ_eq, h1, h2, h3]
    rfl
  | true =>
  cases h4 : inB b.idle 0 b.move with
  | false =>
    simp (config := { maxSteps := 4000000 }) only [↓sx0, ↓sx1, ↓sx2, ↓sx3, ↓sx4, ↓sx5, ↓sx6, sx0, sx1, sx2, sx3, sx4, sx5, sx6, tf31, ev3_hold, sxo, sxc, sxp, sxq, sxr, sxs, sxl, sxm, Int.reduceBEq, Int.reduceBNe, Int.reduceLT, Int.reduceLE, Int.reduceEq, Int.reduceGT, Int.reduceGE, Int.reduceToNat, ↓reduceIte, List.reduceReplicate, Nat.reduceAdd, Nat.reduceSub, Nat.reduceMul, Nat.reduceLT, Nat.reduceLeDiff, Nat.reduceBEq, Nat.reduceEqDiff, detQ_eq, h1, h2, h3, h4]
    rfl
  | true =>
  cases h5 : inB b.reserve 0 5000 with
  | false =>
    simp (config := { maxSteps := 4000000 }) only [↓sx0, ↓sx1, ↓sx2, ↓sx3, ↓sx4, ↓sx5, ↓sx6, sx0, sx1, sx2, sx3, sx4, sx5, sx6, tf31, ev3_hold, sxo, sxc, sxp, sxq, sxr, sxs, sxl, sxm, Int.reduceBEq, Int.reduceBNe, Int.reduceLT, Int.reduceLE, Int.reduceEq, Int.reduceGT, Int.reduceGE, Int.reduceToNat, ↓reduceIte, List.reduceReplicate, Nat.reduceAdd, Nat.reduceSub, Nat.reduceMul, Nat.reduceLT, Nat.reduceLeDiff, Nat.reduceBEq, Nat.reduceEqDiff, detQ_eq, h1, h2, h3, h4, h5]
    rfl
  | true =>
  cases h6 : inB b.seats 0 40 with
  | false =>
    simp (config := { maxSteps := 4000000 }) only [↓sx0, ↓sx1, ↓sx2, ↓sx3, ↓sx4, ↓sx5, ↓sx6, sx0, sx1, sx2, sx3, sx4, sx5, sx6, tf31, ev3_hold, sxo, sxc, sxp, sxq, sxr, sxs, sxl, sxm, Int.reduceBEq, Int.reduceBNe, Int.reduceLT, Int.reduceLE, Int.reduceEq, Int.reduceGT, Int.reduceGE, Int.reduceToNat, ↓reduceIte, List.reduceReplicate, Nat.reduceAdd, Nat.reduceSub, Nat.reduceMul, Nat.reduceLT, Nat.reduceLeDiff, Nat.reduceBEq, Nat.reduceEqDiff, detQ_eq, h1, h2, h3, h4, h5, h6]
    rfl
  | true =>
  cases h7 : inB b.moment 0 1000000 with
  | false =>
    simp (config := { maxSteps := 4000000 }) only [↓sx0, ↓sx1, ↓sx2, ↓sx3, ↓sx4, ↓sx5, ↓sx6, sx0, sx1, sx2, sx3, sx4, sx5, sx6, tf31, ev3_hold, sxo, sxc, sxp, sxq, sxr, sxs, sxl, sxm, Int.reduceBEq, Int.reduceBNe, Int.reduceLT, Int.reduceLE, Int.reduceEq, Int.reduceGT, Int.reduceGE, Int.reduceToNat, ↓reduceIte, List.reduceReplicate, Nat.reduceAdd, Nat.reduceSub, Nat.reduceMul, Nat.reduceLT, Nat.reduceLeDiff, Nat.reduceBEq, Nat.reduceEqDiff, detQ_eq, h1, h2, h3, h4, h5, h6, h7]
    rfl
  | true =>
    simp (config := { maxSteps := 4000000 }) only [↓sx0, ↓sx1, ↓sx2, ↓sx3, ↓sx4, ↓sx5, ↓sx6, sx0, sx1, sx2, sx3, sx4, sx5, sx6, tf31, ev3_hold, sxo, sxc, sxp, sxq, sxr, sxs, sxl, sxm, Int.reduceBEq, Int.reduceBNe, Int.reduceLT, Int.reduceLE, Int.reduceEq, Int.reduceGT, Int.reduceGE, Int.reduceToNat, ↓reduceIte, List.reduceReplicate, Nat.reduceAdd, Nat.reduceSub, Nat.reduceMul, Nat.reduceLT, Nat.reduceLeDiff, Nat.reduceBEq, Nat.reduceEqDiff, detQ_eq, h1, h2, h3, h4, h5, h6, h7]
    rfl
end Go.Proofs.YtcnlbnccbnapbaaDoor

namespace Go.Proofs.YtcnlbnccbnapbaaDoor
open Go.RowKit Go.SX
set_option maxRecDepth 10000
set_option maxHeartbeats 0
set_option linter.unusedSimpArgs false
set_option linter.unusedVariables false
abbrev Lp (α : Type) := List α × Option Addr × Nat × Nat
def lpv {α : Type} (p : Lp α) : Value := .slice p.2.1 p.2.2.1 p.2.2.2
def lpc {α : Type} (p : Lp α) : List Value := [lpv p]
theorem lpc_len {α : Type} (p : Lp α) : (lpc p).length = 1 := rfl
theorem lpc_one {α : Type} (p : Lp α) : ∀ y ∈ lpc p, y.oneCell' = true := by simp [lpc, lpv, Value.oneCell']
def LLOk {α : Type} (f : α → List Value) (sz : Nat) (w : World) (v : Value) (cs : List (List α)) : Prop := ∃ ps : List (Lp α), ps.map Prod.fst = cs ∧ Sl w v 1 (cat lpc ps) ∧ ∀ p ∈ ps, Sl w (lpv p) sz (cat f p.1)
def LLN {α : Type} (f : α → List Value) (sz : Nat) (T E : TypeId) (N : List HO) (v : Value) (cs : List (List α)) : Prop := ∃ ps : List (Lp α), ps.map Prod.fst = cs ∧ HO.row v T 1 (cat lpc ps) ∈ N ∧ ∀ p ∈ ps, HO.row (lpv p) E sz (cat f p.1) ∈ N
theorem LLN.ok {α : Type} {f : α → List Value} {sz : Nat} {T E : TypeId} {N H : List HO} {v : Value} {cs : List (List α)} (h : LLN f sz T E N v cs) (hm : ∀ h ∈ N, h ∈ H) {w0 : Base} {w : World} (hp : Hp w0 H w) : LLOk f sz w v cs := by
  obtain ⟨ps, h1, h2, h3⟩ := h
  exact ⟨ps, h1, row_hp (hm _ h2) hp, fun p h => row_hp (hm _ (h3 p h)) hp⟩
theorem LLOk.hp {α : Type} {f : α → List Value} {sz : Nat} {w0 : World} {H : List HO} {v : Value} {cs : List (List α)} (h : LLOk f sz w0 v cs) {w : World} (hp : Hp ⟨w0, fun _ => False⟩ H w) : LLOk f sz w v cs := by
  obtain ⟨ps, h1, h2, h3⟩ := h
  exact ⟨ps, h1, Sl.hp (w0 := ⟨w0, fun _ => False⟩) h2 (fun _ _ => id) hp, fun p hm => Sl.hp (w0 := ⟨w0, fun _ => False⟩) (h3 p hm) (fun _ _ => id) hp⟩
def staC (c : Cht) (b : Cls) (k : Int) (sD sT sS vr vc vn : Value) : List Value := [I c.wide, I c.high, sD, sT, sS, I b.draught, I b.seas, I b.move, I b.idle, I b.reserve, I b.seats, I b.moment, I k, vr, vc, vn]
def StaOk (w : World) (bs : Nat) (c : Cht) (b : Cls) (k : Int) (rd : List Bool) (cn : List (List Bool)) (nr : List (List Int)) : Prop := ∃ sD sT sS vr vc vn, (∀ (i : Nat) v, (staC c b k sD sT sS vr vc vn)[i]? = some v → w.cell? ⟨bs, i, none⟩ = some v) ∧ ChOk w (.agg #[I c.wide, I c.high, sD, sT, sS]) c ∧ Sl w vr 1 (bools rd) ∧ LLOk b1 1 w vc cn ∧ LLOk i1 1 w vn nr
def StaN (N : List HO) (v : Value) (bs : Nat) (c : Cht) (b : Cls) (k : Int) (rd : List Bool) (cn : List (List Bool)) (nr : List (List Int)) : Prop := ∃ sD sT sS vr vc vn, v = .agg #[I c.wide, I c.high, sD, sT, sS] ∧ HO.cells bs 106 (staC c b k sD sT sS vr vc vn) ∈ N ∧ HO.row vr 4 1 (bools rd) ∈ N ∧ LLN b1 1 102 4 N vc cn ∧ LLN i1 1 22 3 N vn nr
theorem StaN.ok {N H : List HO} {v : Value} {bs : Nat} {c : Cht} {b : Cls} {k : Int} {rd : List Bool} {cn : List (List Bool)} {nr : List (List Int)} (h : StaN N v bs c b k rd cn nr) (hm : ∀ h ∈ N, h ∈ H) {w0 : World} (hc : ChOk w0 v c) {w : World} (hp : Hp ⟨w0, fun _ => False⟩ H w) : StaOk w bs c b k rd cn nr := by
  obtain ⟨sD, sT, sS, vr, vc, vn, rfl, h1, h2, h3, h4⟩ := h
  exact ⟨sD, sT, sS, vr, vc, vn, cells_old (hm _ h1) hp, hc.hp hp, row_hp (hm _ h2) hp, h3.ok hm hp, h4.ok hm hp⟩
theorem StaOk.hp {w0 : World} {bs : Nat} {c : Cht} {b : Cls} {k : Int} {rd : List Bool} {cn : List (List Bool)} {nr : List (List Int)} (h : StaOk w0 bs c b k rd cn nr) {H : List HO} {w : World} (hp : Hp ⟨w0, fun _ => False⟩ H w) : StaOk w bs c b k rd cn nr := by
  obtain ⟨sD, sT, sS, vr, vc, vn, h1, h2, h3, h4, h5⟩ := h
  exact ⟨sD, sT, sS, vr, vc, vn, cell_keep h1 hp.ext, h2.hp hp, h3.hp (fun _ _ => id) hp, h4.hp hp, h5.hp hp⟩
def Rmp.own (r : Rmp) (b : Cls) : Rmp := ⟨r.cell, b.draught, r.least, r.most, r.surf⟩
noncomputable def rdyB (c : Cht) (b : Cls) (r : Rmp) (t : Nat) : Bool := sureT c (r.own b) t && decide (c.swl t ≤ b.seas)
def canB (c : Cht) (b : Cls) (t k : Nat) : Bool := decide (c.over k t (c.tlo t) ≥ b.draught) && decide (c.swl t ≤ b.seas)
noncomputable def rdyL (c : Cht) (b : Cls) (r : Rmp) : List Bool := (List.range c.tide.length).map (rdyB c b r)
def canT (c : Cht) (b : Cls) (t : Nat) : List Bool := (List.range c.depth.length).map (canB c b t)
def canL (c : Cht) (b : Cls) : List (List Bool) := (List.range c.tide.length).map (canT c b)
def nearL (c : Cht) : List (List Int) := (List.range c.depth.length).map fun k => nts (nbL c.W c.H k)
noncomputable def staE (c : Cht) (b : Cls) (r : Rmp) (t f : Int) : Int :=
  if c.okB then (if clsB b then (if rampB c r then (if inB t 0 ((c.tide.length : Int) - 1) && inB f 0 5000 then 0 else 1) else 11) else 50) else 10
theorem staE_zero {c : Cht} {b : Cls} {r : Rmp} {t f : Int} (h : staE c b r t f = 0) : c.ok ∧ clsB b = true ∧ rampB c r = true ∧ (0 ≤ t ∧ t ≤ (c.tide.length : Int) - 1) ∧ 0 ≤ f ∧ f ≤ 5000 := by
  unfold staE at h
  split at h
  · rename_i h1
    split at h
    · rename_i h2
      split at h
      · rename_i h3
        split at h
        · rename_i h4
          rw [Bool.and_eq_true, inB_iff, inB_iff] at h4
          exact ⟨(okB_iff c).1 h1, h2, h3, h4⟩
        · cases h
      · cases h
    · cases h
  · cases h
noncomputable def detO (v : Value) (c : Cht) : Nat → List Value → Option Value := open Classical in fun
  | 79, [x, .int .i64 g, .int .i64 k, .int .i64 t] => if x = v ∧ c.small then some (floatsV c g k t) else none
  | 80, [x, .int .i64 k, .int .i64 d] => if x = v ∧ c.small then some (nextE c k d) else none
  | 46, [.int .i64 n, .int .i64 l, .int .i64 h] => some (.bool (inB n l h))
  | 60, [.int .i64 n, .int .i64 l, .int .i64 h] => some (.bool (inB n l h))
  | 30, [.agg ⟨[.int .i64 x1, .int .i64 x2, .int .i64 x3, .int .i64 x4, .int .i64 x5, .int .i64 x6, .int .i64 x7]⟩] => some (I (if clsB ⟨x1, x2, x3, x4, x5, x6, x7⟩ then 0 else 50))
  | 31, [.agg ⟨[.int .i64 x1, .int .i64 x2, .int .i64 x3, .int .i64 x4, .int .i64 x5, .int .i64 x6, .int .i64 x7]⟩] => some (I (if clsB ⟨x1, x2, x3, x4, x5, x6, x7⟩ then 0 else 50))
  | g, xs => detR v c g xs
theorem detO_ok {v : Value} {c : Cht} {w0 : World} {X : Nat → Prop} (hw : Ways w0) (hc : ChOk w0 v c) (hX : ∀ b, b < w0.heap.size → ¬ X b) : DetFn Tryd.prog ⟨w0, X⟩ (detO v c) := by
  intro g args r h w hk
  have hc' := hc.keep hk hX
  have hw' := hw.keep hk (hX _ (ways_lt hw))
  unfold detO at h
  split at h
  · split at h
    · rename_i hcond
      obtain ⟨rfl, hsm⟩ := hcond
      cases h
      exact det_of_fn (floats1_fn w _ c hc' hsm _ _ _)
    · cases h
  · split at h
    · rename_i hcond
      obtain ⟨rfl, hsm⟩ := hcond
      cases h
      exact det_of_fn (next1_fn w hw' _ c hc' hsm _ _)
    · cases h
  · cases h
    exact det_of_fn (within5_fn w _ _ _)
  · cases h
    exact det_of_fn (from5_fn w _ _ _)
  · cases h
    exact det_of_fn (check5_fn w ⟨_, _, _, _, _, _, _⟩)
  · cases h
    exact det_of_fn (rcheck5_fn w ⟨_, _, _, _, _, _, _⟩)
  · exact detR_ok hw hc hX _ _ _ h w hk
theorem detO_eq (v : Value) (c : Cht) : (∀ n l h : Int, detO v c 46 [I n, I l, I h] = some (.bool (inB n l h))) ∧ (∀ n l h : Int, detO v c 60 [I n, I l, I h] = some (.bool (inB n l h))) ∧
    (∀ x1 x2 x3 x4 x5 x6 x7 : Int, detO v c 30 [.agg #[I x1, I x2, I x3, I x4, I x5, I x6, I x7]] = some (I (if clsB ⟨x1, x2, x3, x4, x5, x6, x7⟩ then 0 else 50))) ∧
    (∀ x1 x2 x3 x4 x5 x6 x7 : Int, detO v c 31 [.agg #[I x1, I x2, I x3, I x4, I x5, I x6, I x7]] = some (I (if clsB ⟨x1, x2, x3, x4, x5, x6, x7⟩ then 0 else 50))) := ⟨fun _ _ _ => rfl, fun _ _ _ => rfl, fun _ _ _ _ _ _ _ => rfl, fun _ _ _ _ _ _ _ => rfl⟩
theorem detO_floats {v : Value} {c : Cht} (hsm : c.small) (hok : c.ok) {g : Int} (hg : 1 ≤ g ∧ g ≤ 100) {k t : Nat} (hk : k < c.depth.length) (ht : t < c.tide.length) : detO v c 79 [v, I g, I k, I t] = some (.tuple #[.bool (decide (c.over k t (c.tlo t) ≥ g)), .bool (decide (c.over k t (c.thi t) ≥ g)), I 0]) := by
  have h1 : detO v c 79 [v, I g, I k, I t] = some (floatsV c g k t) := if_pos ⟨rfl, hsm⟩
  have h2 : openE c [(k : Int)] [(t : Int)] [g] = 0 := by
    unfold openE notCell notTick notDraught
    rw [if_pos ((okB_iff c).2 hok), if_neg]
    simp only [List.any_cons, List.any_nil, Bool.or_false, Bool.or_eq_true, Bool.not_eq_true', not_or, Bool.not_eq_false, inB_iff]
    omega
  rw [h1]
  unfold floatsV
  rw [if_pos h2]
  rfl
theorem detO_next {v : Value} {c : Cht} (hsm : c.small) (hok : c.ok) {k d : Nat} (hk : k < c.depth.length) (hd : d < 6) : detO v c 80 [v, I k, I d] = some (match bes c.W c.H k d with | some n => .tuple #[I n, I 0] | none => .tuple #[I 0, I 3]) := by
  have h1 : detO v c 80 [v, I k, I d] = some (nextE c k d) := if_pos ⟨rfl, hsm⟩
  rw [h1]
  unfold nextE notCell
  rw [if_pos ((okB_iff c).2 hok), if_neg]
  · rfl
  · simp only [Bool.or_eq_true, Bool.not_eq_true', not_or, Bool.not_eq_false, inB_iff]
    omega
end Go.Proofs.YtcnlbnccbnapbaaDoor

