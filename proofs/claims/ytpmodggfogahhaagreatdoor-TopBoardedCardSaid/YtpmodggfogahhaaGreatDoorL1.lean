/- Parts of a proof: the symbolic walk and what it shows of single functions. -/
import Derived.Test.YtpmodggfogahhaaGreatDoorC5
import Derived.Test.YtpmodggfogahhaaGreatDoorX3
set_option linter.all false
namespace Go.Proofs.YtpmodggfogahhaaGreatDoor
open Go.RowKit Go.SX
set_option maxRecDepth 10000
set_option maxHeartbeats 4000000
set_option linter.unusedSimpArgs false
set_option linter.unusedVariables false
structure Cls where
  draught : Int
  seas : Int
  move : Int
  idle : Int
  reserve : Int
  seats : Int
  moment : Int
def clc (b : Cls) : List Value := [I b.draught, I b.seas, I b.move, I b.idle, I b.reserve, I b.seats, I b.moment]
theorem clc_len (b : Cls) : (clc b).length = 7 := rfl
def clv (b : Cls) : Value := .agg #[I b.draught, I b.seas, I b.move, I b.idle, I b.reserve, I b.seats, I b.moment]
def toldL (b : Cls) : List Bool := [inB b.draught 1 100, inB b.seas 0 100, inB b.move 1 100, inB b.idle 0 b.move, inB b.reserve 0 5000, inB b.seats 0 40, inB b.moment 0 1000000]
def clsB (b : Cls) : Bool := (toldL b).all id
theorem clsB_iff (b : Cls) : clsB b = true ↔ (1 ≤ b.draught ∧ b.draught ≤ 100) ∧ (0 ≤ b.seas ∧ b.seas ≤ 100) ∧ (1 ≤ b.move ∧ b.move ≤ 100) ∧ (0 ≤ b.idle ∧ b.idle ≤ b.move) ∧ (0 ≤ b.reserve ∧ b.reserve ≤ 5000) ∧ (0 ≤ b.seats ∧ b.seats ≤ 40) ∧ 0 ≤ b.moment ∧ b.moment ≤ 1000000 := by
  unfold clsB toldL
  simp only [List.all_cons, List.all_nil, id_eq, Bool.and_true, Bool.and_eq_true, inB_iff]
theorem within5_fn (w : World) (n l h : Int) : SX.Fn Tryz.prog 121 [I n, I l, I h] w (fun _ => False) fun v N => v = .bool (inB n l h) := by
  refine walk [] [] (det0_ok _ _) Tryz.func121 rfl Tryz.ntmps121 res121 (by kernel_rfl) no_facts ?_
  simp (config := { maxSteps := 4000000 }) only [↓sx0, ↓sx1, ↓sx2, ↓sx3, ↓sx4, ↓sx5, ↓sx6, sx0, sx1, sx2, sx3, sx4, sx5, sx6, tf121, ev3_hold, sxo, sxc, sxp, sxq, sxr, sxs, sxl, sxm, simprocAttr]
  unfold inB
  exact ⟨fun h1 => by simp [h1], fun h1 => by simp [h1]⟩
theorem from5_fn (w : World) (n l h : Int) : SX.Fn Tryz.prog 74 [I n, I l, I h] w (fun _ => False) fun v N => v = .bool (inB n l h) := by
  refine walk [] [] (det0_ok _ _) Tryz.func74 rfl Tryz.ntmps74 res74 (by kernel_rfl) no_facts ?_
  simp (config := { maxSteps := 4000000 }) only [↓sx0, ↓sx1, ↓sx2, ↓sx3, ↓sx4, ↓sx5, ↓sx6, sx0, sx1, sx2, sx3, sx4, sx5, sx6, tf74, ev3_hold, sxo, sxc, sxp, sxq, sxr, sxs, sxl, sxm, simprocAttr]
  unfold inB
  exact ⟨fun h1 => by simp [h1], fun h1 => by simp [h1]⟩
def detQL : Nat → List Value → Option Value
  | 121, [.int .i64 n, .int .i64 l, .int .i64 h] => some (.bool (inB n l h))
  | 74, [.int .i64 n, .int .i64 l, .int .i64 h] => some (.bool (inB n l h))
  | g, xs => detC g xs
theorem detQ_okL (w0 : World) (X : Nat → Prop) : DetFn Tryz.prog ⟨w0, X⟩ detQL := by
  intro g args v h w hk
  unfold detQL at h
  split at h
  · cases h
    exact det_of_fn (within5_fn w _ _ _)
  · cases h
    exact det_of_fn (from5_fn w _ _ _)
  · exact detC_ok w0 X _ _ _ h w hk
theorem detQ_eqL : (∀ n l h : Int, detQL 121 [I n, I l, I h] = some (.bool (inB n l h))) ∧ (∀ n l h : Int, detQL 74 [I n, I l, I h] = some (.bool (inB n l h))) ∧ (∀ n, detQL 37 [I n] = some (.bool (inB n 1 100))) := ⟨fun _ _ _ => rfl, fun _ _ _ => rfl, fun _ => rfl⟩
theorem indexB_fn (w : World) (v : Value) (l : List Bool) (x : Bool) (hs : Sl w v 1 (bools l)) (hb : l.length ≤ 1000000) : SX.Fn Tryz.prog 156 [v, .bool x] w (fun _ => False) fun r N => ∃ n : Int, r = I n ∧ decide (n ≥ 0) = l.any (· == x) := by
  obtain ⟨a, n, c, rfl⟩ := hs.shape
  have hn := hs.le b1_len (by omega)
  subst hn
  have hr := hs.rd0
  refine walk [] [] (det0_ok _ _) Tryz.func156 rfl Tryz.ntmps156 res156 (by kernel_rfl) no_facts ?_
  simp (config := { maxSteps := 4000000 }) only [↓sx0, ↓sx1, ↓sx2, ↓sx3, ↓sx4, ↓sx5, ↓sx6, sx0, sx1, sx2, sx3, sx4, sx5, sx6, tf156, ev3_hold, sxo, sxc, sxp, sxq, sxr, sxs, sxl, sxm, simprocAttr]
  refine loop_constH [] (HImp.nil _ _) [(4, 5), (8, 18)] (fun i : Nat => [(8, I i)]) (fun i H1 => i ≤ l.length ∧ l.any (· == x) = (l.drop i).any (· == x)) (fun i => l.length - i) 0 ?_ ⟨Nat.zero_le _, rfl⟩ ?_
  · simp (config := { maxSteps := 4000000 }) only [↓sx0, ↓sx1, ↓sx2, ↓sx3, ↓sx4, ↓sx5, ↓sx6, sx0, sx1, sx2, sx3, sx4, sx5, sx6, tf156, ev3_hold, sxo, sxc, sxp, sxq, sxr, sxs, sxl, sxm, simprocAttr]
    try simp
  rintro i H1 g1 ⟨hi, hinv⟩
  by_cases hin : i = l.length
  · have e7 : ((i : Int) < (l.length : Int)) = False := eq_false (by omega)
    rw [List.drop_of_length_le (by omega), List.any_nil] at hinv
    rw [hinv]
    refine ⟨?_⟩
    simp (config := { maxSteps := 4000000 }) only [↓sx0, ↓sx1, ↓sx2, ↓sx3, ↓sx4, ↓sx5, ↓sx6, sx0, sx1, sx2, sx3, sx4, sx5, sx6, tf156, ev3_hold, sxo, sxc, sxp, sxq, sxr, sxs, sxl, sxm, simprocAttr, e7]
    exact ⟨-1, rfl, by simp⟩
  have e7 : ((i : Int) < (l.length : Int)) = True := eq_true (by omega)
  have e2 : wr (i + 1) = ((i + 1 : Nat) : Int) := (wrap_id (by omega)).trans (by omega)
  have hil : i < l.length := by omega
  have hu := List.getElem?_eq_getElem hil
  rw [List.drop_eq_getElem_cons hil, List.any_cons] at hinv
  generalize l[i] = y at hu hinv
  refine ⟨?_⟩
  simp (config := { maxSteps := 4000000 }) only [↓sx0, ↓sx1, ↓sx2, ↓sx3, ↓sx4, ↓sx5, ↓sx6, sx0, sx1, sx2, sx3, sx4, sx5, sx6, tf156, ev3_hold, sxo, sxc, sxp, sxq, sxr, sxs, sxl, sxm, simprocAttr, e7]
  refine amid (at_1 (hr _) b1_len hu rfl fun ad1 => ?_)
  cases x <;> cases y
  · simp (config := { maxSteps := 4000000 }) only [↓sx0, ↓sx1, ↓sx2, ↓sx3, ↓sx4, ↓sx5, ↓sx6, sx0, sx1, sx2, sx3, sx4, sx5, sx6, tf156, ev3_hold, sxo, sxc, sxp, sxq, sxr, sxs, sxl, sxm, simprocAttr]
    exact ⟨i, rfl, by rw [hinv]; simp⟩
  · simp (config := { maxSteps := 4000000 }) only [↓sx0, ↓sx1, ↓sx2, ↓sx3, ↓sx4, ↓sx5, ↓sx6, sx0, sx1, sx2, sx3, sx4, sx5, sx6, tf156, ev3_hold, sxo, sxc, sxp, sxq, sxr, sxs, sxl, sxm, simprocAttr, e2]
    exact ⟨i + 1, _, rfl, HImp.refl _ _, ⟨by omega, by simpa using hinv⟩, by omega⟩
  · simp (config := { maxSteps := 4000000 }) only [↓sx0, ↓sx1, ↓sx2, ↓sx3, ↓sx4, ↓sx5, ↓sx6, sx0, sx1, sx2, sx3, sx4, sx5, sx6, tf156, ev3_hold, sxo, sxc, sxp, sxq, sxr, sxs, sxl, sxm, simprocAttr, e2]
    exact ⟨i + 1, _, rfl, HImp.refl _ _, ⟨by omega, by simpa using hinv⟩, by omega⟩
  · simp (config := { maxSteps := 4000000 }) only [↓sx0, ↓sx1, ↓sx2, ↓sx3, ↓sx4, ↓sx5, ↓sx6, sx0, sx1, sx2, sx3, sx4, sx5, sx6, tf156, ev3_hold, sxo, sxc, sxp, sxq, sxr, sxs, sxl, sxm, simprocAttr]
    exact ⟨i, rfl, by rw [hinv]; simp⟩
theorem containsB_fn (w : World) (v : Value) (l : List Bool) (x : Bool) (hs : Sl w v 1 (bools l)) (hb : l.length ≤ 1000000) : SX.Fn Tryz.prog 122 [v, .bool x] w (fun _ => False) fun r N => r = .bool (l.any (· == x)) := by
  refine walk [] [] (det0_ok _ _) Tryz.func122 rfl Tryz.ntmps122 res122 (by kernel_rfl) no_facts ?_
  simp (config := { maxSteps := 4000000 }) only [↓sx0, ↓sx1, ↓sx2, ↓sx3, ↓sx4, ↓sx5, ↓sx6, sx0, sx1, sx2, sx3, sx4, sx5, sx6, tf122, ev3_hold, sxo, sxc, sxp, sxq, sxr, sxs, sxl, sxm, simprocAttr, det0]
  refine CallOb.pureH (fun w' hp => indexB_fn w' v l x (hs.hp (fun _ _ => id) hp) hb) ?_
  rintro r N ⟨n, rfl, hn⟩
  refine ⟨?_⟩
  simp (config := { maxSteps := 4000000 }) only [↓sx0, ↓sx1, ↓sx2, ↓sx3, ↓sx4, ↓sx5, ↓sx6, sx0, sx1, sx2, sx3, sx4, sx5, sx6, tf122, ev3_hold, sxo, sxc, sxp, sxq, sxr, sxs, sxl, sxm, simprocAttr, hn]
theorem cells_sl {w0 : Base} {H : List HO} {b n c : Nat} {T : TypeId} {cs : List Value} (h : HO.cells b T cs ∈ H) (hn : cs.length = n) {w : World} (hp : Hp w0 H w) : Sl w (.slice (some ((⟨b, 0, none⟩ : Addr).add 0)) n c) 1 cs := by
  refine ⟨_, _, _, rfl, by omega, fun i x hx => ⟨_, rfl, ?_⟩⟩
  rw [add_block, add_block, cell_of_cells (hp.ok _ h)]
  simpa using hx
def pl77_1 : Plan := (ones [0, 3, 6, 9, 11, 14, 17, 20] (.ld 1 (.ld 4 (.ld 7 (.ld 10 (.ld 12 (.ld 15 (.ld 18 (.ld 21 (.pre 24 (ones [2, 5, 8, 13, 16, 19, 22, 23, 24] (.kl 25 .fin))))))))))))
def pl77 : List (Nat × Plan) := [(1, pl77_1)]
theorem pl77_lk : (lkO 1 pl77 = some pl77_1) := rfl
theorem check5_fn (w : World) (b : Cls) : SX.Fn Tryz.prog 77 [clv b] w (fun _ => False) fun r N => r = I (if clsB b then 0 else 50) := by
  have ha : arT Tryz.prog 204 = some (7, 1, none) := by kernel_rfl
  unfold clv
  refine walk [3] pl77 (detQ_okL _ _) Tryz.func77 rfl Tryz.ntmps77 res77 (by kernel_rfl) no_facts ?_
  simp (config := { maxSteps := 4000000 }) only [↓sx0, ↓sx1, ↓sx2, ↓sx3, ↓sx4, ↓sx5, ↓sx6, sx0, sx1, sx2, sx3, sx4, sx5, sx6, tf77, ev3_hold, sxo, sxc, sxp, sxq, sxr, sxs, sxl, sxm, simprocAttr, detQ_eqL, pl77_lk, pl77_1]
  intro b1
  refine wr_cell (A := []) rfl (by simp) ?_
  simp (config := { maxSteps := 4000000 }) only [↓sx0, ↓sx1, ↓sx2, ↓sx3, ↓sx4, ↓sx5, ↓sx6, sx0, sx1, sx2, sx3, sx4, sx5, sx6, tf77, ev3_hold, sxo, sxc, sxp, sxq, sxr, sxs, sxl, sxm, simprocAttr, ha, det0, List.take, List.drop, List.length_cons, List.length_nil, List.nil_append, pl77_lk, pl77_1]
  refine CallOb.pureH (fun w' hp => containsB_fn w' _ (toldL b) false (cells_sl (T := 204) (cs := bools (toldL b)) List.mem_cons_self rfl hp) (by simp [toldL])) ?_
  rintro r N rfl
  have hc : ((toldL b).any fun x => x == false) = !clsB b := by
    unfold clsB
    rw [List.all_eq_not_any_not, Bool.not_not]
    congr 1
    funext x
    cases x <;> rfl
  rw [hc]
  cases hB : clsB b with
  | true =>
    refine ⟨?_⟩
    simp (config := { maxSteps := 4000000 }) only [↓sx0, ↓sx1, ↓sx2, ↓sx3, ↓sx4, ↓sx5, ↓sx6, sx0, sx1, sx2, sx3, sx4, sx5, sx6, tf77, ev3_hold, sxo, sxc, sxp, sxq, sxr, sxs, sxl, sxm, simprocAttr]
  | false =>
    refine ⟨?_⟩
    simp (config := { maxSteps := 4000000 }) only [↓sx0, ↓sx1, ↓sx2, ↓sx3, ↓sx4, ↓sx5, ↓sx6, sx0, sx1, sx2, sx3, sx4, sx5, sx6, tf77, ev3_hold, sxo, sxc, sxp, sxq, sxr, sxs, sxl, sxm, simprocAttr]
theorem rcheck5_fn (w : World) (b : Cls) : SX.Fn Tryz.prog 32 [clv b] w (fun _ => False) fun r N => r = I (if clsB b then 0 else 50) := by
  unfold clv clsB toldL
  refine walk [] [] (detQ_okL _ _) Tryz.func32 rfl Tryz.ntmps32 res32 (by kernel_rfl) no_facts ?_
  cases h1 : inB b.draught 1 100 with
  | false =>
    simp (config := { maxSteps := 4000000 }) only [↓sx0, ↓sx1, ↓sx2, ↓sx3, ↓sx4, ↓sx5, ↓sx6, sx0, sx1, sx2, sx3, sx4, sx5, sx6, tf32, ev3_hold, sxo, sxc, sxp, sxq, sxr, sxs, sxl, sxm, simprocAttr, detQ_eqL, h1]
    rfl
  | true =>
  cases h2 : inB b.seas 0 100 with
  | false =>
    simp (config := { maxSteps := 4000000 }) only [↓sx0, ↓sx1, ↓sx2, ↓sx3, ↓sx4, ↓sx5, ↓sx6, sx0, sx1, sx2, sx3, sx4, sx5, sx6, tf32, ev3_hold, sxo, sxc, sxp, sxq, sxr, sxs, sxl, sxm, simprocAttr, detQ_eqL, h1, h2]
    rfl
  | true =>
  cases h3 : inB b.move 1 100 with
  | false =>
    simp (config := { maxSteps := 4000000 }) only [↓sx0, ↓sx1, ↓sx2, ↓sx3, ↓sx4, ↓sx5, ↓sx6, sx0, sx1, sx2, sx3, sx4, sx5, sx6, tf32, ev3_hold, sxo, sxc, sxp, sxq, sxr, sxs, sxl, sxm, simprocAttr, detQ_eqL, h1, h2, h3]
    rfl
  | true =>
  cases h4 : inB b.idle 0 b.move with
  | false =>
    simp (config := { maxSteps := 4000000 }) only [↓sx0, ↓sx1, ↓sx2, ↓sx3, ↓sx4, ↓sx5, ↓sx6, sx0, sx1, sx2, sx3, sx4, sx5, sx6, tf32, ev3_hold, sxo, sxc, sxp, sxq, sxr, sxs, sxl, sxm, simprocAttr, detQ_eqL, h1, h2, h3, h4]
    rfl
  | true =>
  cases h5 : inB b.reserve 0 5000 with
  | false =>
    simp (config := { maxSteps := 4000000 }) only [↓sx0, ↓sx1, ↓sx2, ↓sx3, ↓sx4, ↓sx5, ↓sx6, sx0, sx1, sx2, sx3, sx4, sx5, sx6, tf32, ev3_hold, sxo, sxc, sxp, sxq, sxr, sxs, sxl, sxm, simprocAttr, detQ_eqL, h1, h2, h3, h4, h5]
    rfl
  | true =>
  cases h6 : inB b.seats 0 40 with
  | false =>
    simp (config := { maxSteps := 4000000 }) only [↓sx0, ↓sx1, ↓sx2, ↓sx3, ↓sx4, ↓sx5, ↓sx6, sx0, sx1, sx2, sx3, sx4, sx5, sx6, tf32, ev3_hold, sxo, sxc, sxp, sxq, sxr, sxs, sxl, sxm, simprocAttr, detQ_eqL, h1, h2, h3, h4, h5, h6]
    rfl
  | true =>
  cases h7 : inB b.moment 0 1000000 with
  | false =>
    simp (config := { maxSteps := 4000000 }) only [↓sx0, ↓sx1, ↓sx2, ↓sx3, ↓sx4, ↓sx5, ↓sx6, sx0, sx1, sx2, sx3, sx4, sx5, sx6, tf32, ev3_hold, sxo, sxc, sxp, sxq, sxr, sxs, sxl, sxm, simprocAttr, detQ_eqL, h1, h2, h3, h4, h5, h6, h7]
    rfl
  | true =>
    simp (config := { maxSteps := 4000000 }) only [↓sx0, ↓sx1, ↓sx2, ↓sx3, ↓sx4, ↓sx5, ↓sx6, sx0, sx1, sx2, sx3, sx4, sx5, sx6, tf32, ev3_hold, sxo, sxc, sxp, sxq, sxr, sxs, sxl, sxm, simprocAttr, detQ_eqL, h1, h2, h3, h4, h5, h6, h7]
    rfl
end Go.Proofs.YtpmodggfogahhaaGreatDoor

namespace Go.Proofs.YtpmodggfogahhaaGreatDoor
open Go.RowKit Go.SX
set_option maxRecDepth 10000
set_option maxHeartbeats 0
set_option linter.unusedSimpArgs false
set_option linter.unusedVariables false
abbrev LpL (α : Type) := List α × Option Addr × Nat × Nat
def lpvL {α : Type} (p : LpL α) : Value := .slice p.2.1 p.2.2.1 p.2.2.2
def lpcL {α : Type} (p : LpL α) : List Value := [lpvL p]
def LLOkL {α : Type} (f : α → List Value) (sz : Nat) (w : World) (v : Value) (cs : List (List α)) : Prop := ∃ ps : List (LpL α), ps.map Prod.fst = cs ∧ Sl w v 1 (cat lpcL ps) ∧ ∀ p ∈ ps, Sl w (lpvL p) sz (cat f p.1)
def LLNL {α : Type} (f : α → List Value) (sz : Nat) (T E : TypeId) (N : List HO) (v : Value) (cs : List (List α)) : Prop := ∃ ps : List (LpL α), ps.map Prod.fst = cs ∧ HO.row v T 1 (cat lpcL ps) ∈ N ∧ ∀ p ∈ ps, HO.row (lpvL p) E sz (cat f p.1) ∈ N
theorem LLNL.ok {α : Type} {f : α → List Value} {sz : Nat} {T E : TypeId} {N H : List HO} {v : Value} {cs : List (List α)} (h : LLNL f sz T E N v cs) (hm : ∀ h ∈ N, h ∈ H) {w0 : Base} {w : World} (hp : Hp w0 H w) : LLOkL f sz w v cs := by
  obtain ⟨ps, h1, h2, h3⟩ := h
  exact ⟨ps, h1, row_hp (hm _ h2) hp, fun p h => row_hp (hm _ (h3 p h)) hp⟩
theorem LLOkL.hp {α : Type} {f : α → List Value} {sz : Nat} {w0 : World} {H : List HO} {v : Value} {cs : List (List α)} (h : LLOkL f sz w0 v cs) {w : World} (hp : Hp ⟨w0, fun _ => False⟩ H w) : LLOkL f sz w v cs := by
  obtain ⟨ps, h1, h2, h3⟩ := h
  exact ⟨ps, h1, Sl.hp (w0 := ⟨w0, fun _ => False⟩) h2 (fun _ _ => id) hp, fun p hm => Sl.hp (w0 := ⟨w0, fun _ => False⟩) (h3 p hm) (fun _ _ => id) hp⟩
def staC (c : Cht) (b : Cls) (k : Int) (sD sT sS vr vc vn : Value) : List Value := [I c.wide, I c.high, sD, sT, sS, I b.draught, I b.seas, I b.move, I b.idle, I b.reserve, I b.seats, I b.moment, I k, vr, vc, vn]
def StaOk (w : World) (bs : Nat) (c : Cht) (b : Cls) (k : Int) (rd : List Bool) (cn : List (List Bool)) (nr : List (List Int)) : Prop := ∃ sD sT sS vr vc vn, (∀ (i : Nat) v, (staC c b k sD sT sS vr vc vn)[i]? = some v → w.cell? ⟨bs, i, none⟩ = some v) ∧ ChOk w (.agg #[I c.wide, I c.high, sD, sT, sS]) c ∧ Sl w vr 1 (bools rd) ∧ LLOkL b1 1 w vc cn ∧ LLOkL i1 1 w vn nr
theorem StaOk.hp {w0 : World} {bs : Nat} {c : Cht} {b : Cls} {k : Int} {rd : List Bool} {cn : List (List Bool)} {nr : List (List Int)} (h : StaOk w0 bs c b k rd cn nr) {H : List HO} {w : World} (hp : Hp ⟨w0, fun _ => False⟩ H w) : StaOk w bs c b k rd cn nr := by
  obtain ⟨sD, sT, sS, vr, vc, vn, h1, h2, h3, h4, h5⟩ := h
  exact ⟨sD, sT, sS, vr, vc, vn, cell_keep h1 hp.ext, h2.hp hp, h3.hp (fun _ _ => id) hp, h4.hp hp, h5.hp hp⟩
end Go.Proofs.YtpmodggfogahhaaGreatDoor

namespace Go.Proofs.YtpmodggfogahhaaGreatDoor
open Go.RowKit Go.SX
set_option maxRecDepth 10000
set_option maxHeartbeats 0
set_option linter.unusedSimpArgs false
set_option linter.unusedVariables false
def ldc (x : Int × Int × Int) : List Value := [I x.1, I x.2.1, I x.2.2]
theorem ldc_len (x : Int × Int × Int) : (ldc x).length = 3 := rfl
def vL (x : Int × Int × Int) : Value := .agg (ldc x).toArray
theorem vL_inj (a b : Int × Int × Int) (h : vL a = vL b) : a = b := by
  simp only [vL, ldc, Value.agg.injEq] at h
  injection h with h
  simp only [List.cons.injEq, Value.int.injEq, true_and, and_true] at h
  exact Prod.ext h.1 (Prod.ext h.2.1 h.2.2)
theorem clv_inj (a b : Cls) (h : clv a = clv b) : a = b := by
  obtain ⟨a1, a2, a3, a4, a5, a6, a7⟩ := a
  obtain ⟨b1, b2, b3, b4, b5, b6, b7⟩ := b
  simp only [clv, Value.agg.injEq] at h
  injection h with h
  simp only [List.cons.injEq, Value.int.injEq, true_and, and_true] at h
  obtain ⟨rfl, rfl, rfl, rfl, rfl, rfl, rfl⟩ := h
  rfl
def badL (x : Int × Int × Int) : Bool := decide (x.1 < 0) || decide (x.1 > x.2.1) || decide (x.2.1 > 1000) || !inB x.2.2 0 50
theorem badL_iff (x : Int × Int × Int) : badL x = false ↔ 0 ≤ x.1 ∧ x.1 ≤ x.2.1 ∧ x.2.1 ≤ 1000 ∧ 0 ≤ x.2.2 ∧ x.2.2 ≤ 50 := by
  unfold badL
  rw [Bool.or_eq_false_iff, Bool.or_eq_false_iff, Bool.or_eq_false_iff, decide_eq_false_iff_not, decide_eq_false_iff_not, decide_eq_false_iff_not, Bool.not_eq_false', inB_iff]
  omega
def detL : Nat → List Value → Option Value
  | 77, [.agg ⟨[.int .i64 x1, .int .i64 x2, .int .i64 x3, .int .i64 x4, .int .i64 x5, .int .i64 x6, .int .i64 x7]⟩] => some (I (if clsB ⟨x1, x2, x3, x4, x5, x6, x7⟩ then 0 else 50))
  | 32, [.agg ⟨[.int .i64 x1, .int .i64 x2, .int .i64 x3, .int .i64 x4, .int .i64 x5, .int .i64 x6, .int .i64 x7]⟩] => some (I (if clsB ⟨x1, x2, x3, x4, x5, x6, x7⟩ then 0 else 50))
  | g, xs => detQL g xs
theorem detL_ok (w0 : World) (X : Nat → Prop) : DetFn Tryz.prog ⟨w0, X⟩ detL := by
  intro g args v h w hk
  unfold detL at h
  split at h
  · cases h
    exact det_of_fn (check5_fn w ⟨_, _, _, _, _, _, _⟩)
  · cases h
    exact det_of_fn (rcheck5_fn w ⟨_, _, _, _, _, _, _⟩)
  · exact detQ_okL w0 X _ _ _ h w hk
theorem detL_eq : (∀ n l h : Int, detL 121 [I n, I l, I h] = some (.bool (inB n l h))) ∧ (∀ n l h : Int, detL 74 [I n, I l, I h] = some (.bool (inB n l h))) ∧
    (∀ x1 x2 x3 x4 x5 x6 x7 : Int, detL 77 [.agg #[I x1, I x2, I x3, I x4, I x5, I x6, I x7]] = some (I (if clsB ⟨x1, x2, x3, x4, x5, x6, x7⟩ then 0 else 50))) ∧
    (∀ x1 x2 x3 x4 x5 x6 x7 : Int, detL 32 [.agg #[I x1, I x2, I x3, I x4, I x5, I x6, I x7]] = some (I (if clsB ⟨x1, x2, x3, x4, x5, x6, x7⟩ then 0 else 50))) := ⟨fun _ _ _ => rfl, fun _ _ _ => rfl, fun _ _ _ _ _ _ _ => rfl, fun _ _ _ _ _ _ _ => rfl⟩
theorem badL_fn (w : World) (x : Int × Int × Int) : SX.Fn Tryz.prog 125 [vL x] w (fun _ => False) fun v N => v = .bool (badL x) := by
  unfold vL ldc
  refine walk [] [] (detL_ok _ _) Tryz.func125 rfl Tryz.ntmps125 res125 (by kernel_rfl) no_facts ?_
  simp (config := { maxSteps := 4000000 }) only [↓sx0, ↓sx1, ↓sx2, ↓sx3, ↓sx4, ↓sx5, ↓sx6, sx0, sx1, sx2, sx3, sx4, sx5, sx6, tf125, ev3_hold, sxo, sxc, sxp, sxq, sxr, sxs, sxl, sxm, Int.reduceBEq, Int.reduceBNe, Int.reduceLT, Int.reduceLE, Int.reduceEq, Int.reduceGT, Int.reduceGE, Int.reduceToNat, ↓reduceIte, List.reduceReplicate, Nat.reduceAdd, Nat.reduceSub, Nat.reduceMul, Nat.reduceLT, Nat.reduceLeDiff, Nat.reduceBEq, Nat.reduceEqDiff, detL_eq]
  unfold badL
  by_cases h1 : x.1 < 0 <;> by_cases h2 : x.1 > x.2.1 <;> by_cases h3 : x.2.1 > 1000 <;> simp [h1, h2, h3]
def badC (b : Cls) : Bool := !clsB b
theorem badC_fn (w : World) (b : Cls) : SX.Fn Tryz.prog 76 [clv b] w (fun _ => False) fun v N => v = .bool (badC b) := by
  unfold badC
  cases h : clsB b with
  | true =>
    unfold clv
    refine walk [] [] (detL_ok _ _) Tryz.func76 rfl Tryz.ntmps76 res76 (by kernel_rfl) no_facts ?_
    simp (config := { maxSteps := 4000000 }) only [↓sx0, ↓sx1, ↓sx2, ↓sx3, ↓sx4, ↓sx5, ↓sx6, sx0, sx1, sx2, sx3, sx4, sx5, sx6, tf76, ev3_hold, sxo, sxc, sxp, sxq, sxr, sxs, sxl, sxm, Int.reduceBEq, Int.reduceBNe, Int.reduceLT, Int.reduceLE, Int.reduceEq, Int.reduceGT, Int.reduceGE, Int.reduceToNat, ↓reduceIte, List.reduceReplicate, Nat.reduceAdd, Nat.reduceSub, Nat.reduceMul, Nat.reduceLT, Nat.reduceLeDiff, Nat.reduceBEq, Nat.reduceEqDiff, detL_eq, h]
    try simp
  | false =>
    unfold clv
    refine walk [] [] (detL_ok _ _) Tryz.func76 rfl Tryz.ntmps76 res76 (by kernel_rfl) no_facts ?_
    simp (config := { maxSteps := 4000000 }) only [↓sx0, ↓sx1, ↓sx2, ↓sx3, ↓sx4, ↓sx5, ↓sx6, sx0, sx1, sx2, sx3, sx4, sx5, sx6, tf76, ev3_hold, sxo, sxc, sxp, sxq, sxr, sxs, sxl, sxm, Int.reduceBEq, Int.reduceBNe, Int.reduceLT, Int.reduceLE, Int.reduceEq, Int.reduceGT, Int.reduceGE, Int.reduceToNat, ↓reduceIte, List.reduceReplicate, Nat.reduceAdd, Nat.reduceSub, Nat.reduceMul, Nat.reduceLT, Nat.reduceLeDiff, Nat.reduceBEq, Nat.reduceEqDiff, detL_eq, h]
    try simp
theorem tells_badL (w : World) : Tells w (fun _ => False) vL 125 [] badL := ⟨Tryz.call125, fun w' _ a => det_of_fn (badL_fn w' a)⟩
theorem tells_badC (w : World) : Tells w (fun _ => False) clv 76 [] badC := ⟨Tryz.call76, fun w' _ a => det_of_fn (badC_fn w' a)⟩
theorem indexL_fn (w : World) (v : Value) (l : List (Int × Int × Int)) (g : Nat) (cap : List Value) (p : Int × Int × Int → Bool) (hs : Sl w v 3 (cat ldc l)) (hb : l.length ≤ 1000) (hp : Tells w (fun _ => False) vL g cap p) :
    SX.Fn Tryz.prog 157 [v, .func (.func g) [].toArray cap.toArray] w (fun _ => False) fun r N => ∃ n : Int, r = I n ∧ decide (n ≥ 0) = l.any p := by
  obtain ⟨a, n, c, rfl⟩ := hs.shape
  have hn := hs.le ldc_len (by omega)
  have hr := hs.rd0
  have hT := hp.1
  have hd := fun m => detP_eq vL_inj g cap p m
  refine walk [] [] (detP_ok vL_inj hp) Tryz.func157 rfl Tryz.ntmps157 res157 (by kernel_rfl) no_facts ?_
  simp (config := { maxSteps := 4000000 }) only [↓sx0, ↓sx1, ↓sx2, ↓sx3, ↓sx4, ↓sx5, ↓sx6, sx0, sx1, sx2, sx3, sx4, sx5, sx6, tf157, ev3_hold, sxo, sxc, sxp, sxq, sxr, sxs, sxl, sxm, Int.reduceBEq, Int.reduceBNe, Int.reduceLT, Int.reduceLE, Int.reduceEq, Int.reduceGT, Int.reduceGE, Int.reduceToNat, ↓reduceIte, List.reduceReplicate, Nat.reduceAdd, Nat.reduceSub, Nat.reduceMul, Nat.reduceLT, Nat.reduceLeDiff, Nat.reduceBEq, Nat.reduceEqDiff]
  refine loop_const [(4, 5), (8, 18)] (fun k : Nat => [(8, I k)]) (fun k H1 => H1 = [] ∧ k ≤ n ∧ l.any p = (l.drop k).any p) (fun k => n - k) 0 ?_ ⟨rfl, Nat.zero_le _, rfl⟩ ?_
  · simp (config := { maxSteps := 4000000 }) only [↓sx0, ↓sx1, ↓sx2, ↓sx3, ↓sx4, ↓sx5, ↓sx6, sx0, sx1, sx2, sx3, sx4, sx5, sx6, tf157, ev3_hold, sxo, sxc, sxp, sxq, sxr, sxs, sxl, sxm, Int.reduceBEq, Int.reduceBNe, Int.reduceLT, Int.reduceLE, Int.reduceEq, Int.reduceGT, Int.reduceGE, Int.reduceToNat, ↓reduceIte, List.reduceReplicate, Nat.reduceAdd, Nat.reduceSub, Nat.reduceMul, Nat.reduceLT, Nat.reduceLeDiff, Nat.reduceBEq, Nat.reduceEqDiff]
    simp
  · rintro k H1 g1 ⟨rfl, hk, ht⟩
    by_cases hkn : k = n
    · subst hkn
      have e7 : ((k : Int) < (k : Int)) = False := eq_false (by omega)
      simp (config := { maxSteps := 4000000 }) only [↓sx0, ↓sx1, ↓sx2, ↓sx3, ↓sx4, ↓sx5, ↓sx6, sx0, sx1, sx2, sx3, sx4, sx5, sx6, tf157, ev3_hold, sxo, sxc, sxp, sxq, sxr, sxs, sxl, sxm, Int.reduceBEq, Int.reduceBNe, Int.reduceLT, Int.reduceLE, Int.reduceEq, Int.reduceGT, Int.reduceGE, Int.reduceToNat, ↓reduceIte, List.reduceReplicate, Nat.reduceAdd, Nat.reduceSub, Nat.reduceMul, Nat.reduceLT, Nat.reduceLeDiff, Nat.reduceBEq, Nat.reduceEqDiff, e7]
      refine ⟨-1, rfl, ?_⟩
      rw [ht, List.drop_of_length_le (by omega)]
      rfl
    · have e7 : ((k : Int) < (n : Int)) = True := eq_true (by omega)
      have e2 : wr (k + 1) = ((k + 1 : Nat) : Int) := (wrap_id (by omega)).trans (by omega)
      have hkl : k < l.length := by omega
      have hdk := hd l[k]
      rw [vL] at hdk
      simp (config := { maxSteps := 4000000 }) only [↓sx0, ↓sx1, ↓sx2, ↓sx3, ↓sx4, ↓sx5, ↓sx6, sx0, sx1, sx2, sx3, sx4, sx5, sx6, tf157, ev3_hold, sxo, sxc, sxp, sxq, sxr, sxs, sxl, sxm, Int.reduceBEq, Int.reduceBNe, Int.reduceLT, Int.reduceLE, Int.reduceEq, Int.reduceGT, Int.reduceGE, Int.reduceToNat, ↓reduceIte, List.reduceReplicate, Nat.reduceAdd, Nat.reduceSub, Nat.reduceMul, Nat.reduceLT, Nat.reduceLeDiff, Nat.reduceBEq, Nat.reduceEqDiff, e7]
      refine amid (at_n (hr _) ldc_len (by omega) (List.getElem?_eq_getElem hkl) fun ad => ?_)
      rw [List.drop_eq_getElem_cons hkl, List.any_cons] at ht
      simp (config := { maxSteps := 4000000 }) only [↓sx0, ↓sx1, ↓sx2, ↓sx3, ↓sx4, ↓sx5, ↓sx6, sx0, sx1, sx2, sx3, sx4, sx5, sx6, tf157, ev3_hold, sxo, sxc, sxp, sxq, sxr, sxs, sxl, sxm, Int.reduceBEq, Int.reduceBNe, Int.reduceLT, Int.reduceLE, Int.reduceEq, Int.reduceGT, Int.reduceGE, Int.reduceToNat, ↓reduceIte, List.reduceReplicate, Nat.reduceAdd, Nat.reduceSub, Nat.reduceMul, Nat.reduceLT, Nat.reduceLeDiff, Nat.reduceBEq, Nat.reduceEqDiff, e2, hT, hdk]
      refine ⟨fun h1 => ⟨k, rfl, ?_⟩, fun h1 => ⟨k + 1, _, rfl, HImp.refl _ _, ⟨rfl, by omega, ?_⟩, by omega⟩⟩
      · rw [ht, h1, Bool.true_or, decide_eq_true_iff]
        omega
      · rw [ht, h1, Bool.false_or]
theorem indexC_fn (w : World) (v : Value) (l : List Cls) (g : Nat) (cap : List Value) (p : Cls → Bool) (hs : Sl w v 7 (cat clc l)) (hb : l.length ≤ 1000) (hp : Tells w (fun _ => False) clv g cap p) :
    SX.Fn Tryz.prog 120 [v, .func (.func g) [].toArray cap.toArray] w (fun _ => False) fun r N => ∃ n : Int, r = I n ∧ decide (n ≥ 0) = l.any p := by
  obtain ⟨a, n, c, rfl⟩ := hs.shape
  have hn := hs.le clc_len (by omega)
  have hr := hs.rd0
  have hT := hp.1
  have hd := fun m => detP_eq clv_inj g cap p m
  refine walk [] [] (detP_ok clv_inj hp) Tryz.func120 rfl Tryz.ntmps120 res120 (by kernel_rfl) no_facts ?_
  simp (config := { maxSteps := 4000000 }) only [↓sx0, ↓sx1, ↓sx2, ↓sx3, ↓sx4, ↓sx5, ↓sx6, sx0, sx1, sx2, sx3, sx4, sx5, sx6, tf120, ev3_hold, sxo, sxc, sxp, sxq, sxr, sxs, sxl, sxm, Int.reduceBEq, Int.reduceBNe, Int.reduceLT, Int.reduceLE, Int.reduceEq, Int.reduceGT, Int.reduceGE, Int.reduceToNat, ↓reduceIte, List.reduceReplicate, Nat.reduceAdd, Nat.reduceSub, Nat.reduceMul, Nat.reduceLT, Nat.reduceLeDiff, Nat.reduceBEq, Nat.reduceEqDiff]
  refine loop_const [(4, 5), (8, 18)] (fun k : Nat => [(8, I k)]) (fun k H1 => H1 = [] ∧ k ≤ n ∧ l.any p = (l.drop k).any p) (fun k => n - k) 0 ?_ ⟨rfl, Nat.zero_le _, rfl⟩ ?_
  · simp (config := { maxSteps := 4000000 }) only [↓sx0, ↓sx1, ↓sx2, ↓sx3, ↓sx4, ↓sx5, ↓sx6, sx0, sx1, sx2, sx3, sx4, sx5, sx6, tf120, ev3_hold, sxo, sxc, sxp, sxq, sxr, sxs, sxl, sxm, Int.reduceBEq, Int.reduceBNe, Int.reduceLT, Int.reduceLE, Int.reduceEq, Int.reduceGT, Int.reduceGE, Int.reduceToNat, ↓reduceIte, List.reduceReplicate, Nat.reduceAdd, Nat.reduceSub, Nat.reduceMul, Nat.reduceLT, Nat.reduceLeDiff, Nat.reduceBEq, Nat.reduceEqDiff]
    simp
  · rintro k H1 g1 ⟨rfl, hk, ht⟩
    by_cases hkn : k = n
    · subst hkn
      have e7 : ((k : Int) < (k : Int)) = False := eq_false (by omega)
      simp (config := { maxSteps := 4000000 }) only [↓sx0, ↓sx1, ↓sx2, ↓sx3, ↓sx4, ↓sx5, ↓sx6, sx0, sx1, sx2, sx3, sx4, sx5, sx6, tf120, ev3_hold, sxo, sxc, sxp, sxq, sxr, sxs, sxl, sxm, Int.reduceBEq, Int.reduceBNe, Int.reduceLT, Int.reduceLE, Int.reduceEq, Int.reduceGT, Int.reduceGE, Int.reduceToNat, ↓reduceIte, List.reduceReplicate, Nat.reduceAdd, Nat.reduceSub, Nat.reduceMul, Nat.reduceLT, Nat.reduceLeDiff, Nat.reduceBEq, Nat.reduceEqDiff, e7]
      refine ⟨-1, rfl, ?_⟩
      rw [ht, List.drop_of_length_le (by omega)]
      rfl
    · have e7 : ((k : Int) < (n : Int)) = True := eq_true (by omega)
      have e2 : wr (k + 1) = ((k + 1 : Nat) : Int) := (wrap_id (by omega)).trans (by omega)
      have hkl : k < l.length := by omega
      have hdk := hd l[k]
      have hcl : Value.agg (clc l[k]).toArray = clv l[k] := rfl
      simp (config := { maxSteps := 4000000 }) only [↓sx0, ↓sx1, ↓sx2, ↓sx3, ↓sx4, ↓sx5, ↓sx6, sx0, sx1, sx2, sx3, sx4, sx5, sx6, tf120, ev3_hold, sxo, sxc, sxp, sxq, sxr, sxs, sxl, sxm, Int.reduceBEq, Int.reduceBNe, Int.reduceLT, Int.reduceLE, Int.reduceEq, Int.reduceGT, Int.reduceGE, Int.reduceToNat, ↓reduceIte, List.reduceReplicate, Nat.reduceAdd, Nat.reduceSub, Nat.reduceMul, Nat.reduceLT, Nat.reduceLeDiff, Nat.reduceBEq, Nat.reduceEqDiff, e7]
      refine amid (at_n (hr _) clc_len (by omega) (List.getElem?_eq_getElem hkl) fun ad => ?_)
      rw [List.drop_eq_getElem_cons hkl, List.any_cons] at ht
      simp (config := { maxSteps := 4000000 }) only [↓sx0, ↓sx1, ↓sx2, ↓sx3, ↓sx4, ↓sx5, ↓sx6, sx0, sx1, sx2, sx3, sx4, sx5, sx6, tf120, ev3_hold, sxo, sxc, sxp, sxq, sxr, sxs, sxl, sxm, Int.reduceBEq, Int.reduceBNe, Int.reduceLT, Int.reduceLE, Int.reduceEq, Int.reduceGT, Int.reduceGE, Int.reduceToNat, ↓reduceIte, List.reduceReplicate, Nat.reduceAdd, Nat.reduceSub, Nat.reduceMul, Nat.reduceLT, Nat.reduceLeDiff, Nat.reduceBEq, Nat.reduceEqDiff, e2, hT, hcl, hdk]
      refine ⟨fun h1 => ⟨k, rfl, ?_⟩, fun h1 => ⟨k + 1, _, rfl, HImp.refl _ _, ⟨rfl, by omega, ?_⟩, by omega⟩⟩
      · rw [ht, h1, Bool.true_or, decide_eq_true_iff]
        omega
      · rw [ht, h1, Bool.false_or]
theorem containsL_fn (w : World) (v : Value) (l : List (Int × Int × Int)) (g : Nat) (cap : List Value) (p : Int × Int × Int → Bool) (hs : Sl w v 3 (cat ldc l)) (hb : l.length ≤ 1000) (hp : Tells w (fun _ => False) vL g cap p) :
    SX.Fn Tryz.prog 126 [v, .func (.func g) [].toArray cap.toArray] w (fun _ => False) fun r N => r = .bool (l.any p) := by
  obtain ⟨a, n, c, rfl⟩ := hs.shape
  refine walk [] [] (det0_ok _ _) Tryz.func126 rfl Tryz.ntmps126 res126 (by kernel_rfl) no_facts ?_
  simp (config := { maxSteps := 4000000 }) only [↓sx0, ↓sx1, ↓sx2, ↓sx3, ↓sx4, ↓sx5, ↓sx6, sx0, sx1, sx2, sx3, sx4, sx5, sx6, tf126, ev3_hold, sxo, sxc, sxp, sxq, sxr, sxs, sxl, sxm, Int.reduceBEq, Int.reduceBNe, Int.reduceLT, Int.reduceLE, Int.reduceEq, Int.reduceGT, Int.reduceGE, Int.reduceToNat, ↓reduceIte, List.reduceReplicate, Nat.reduceAdd, Nat.reduceSub, Nat.reduceMul, Nat.reduceLT, Nat.reduceLeDiff, Nat.reduceBEq, Nat.reduceEqDiff, det0]
  refine CallOb.pure (fun w' hp' => indexL_fn w' _ l g cap p (hs.hp (fun _ _ => id) hp') hb ⟨hp.1, fun w2 hk => hp.2 w2 (hk.into hp'.ext fun _ h => h.elim)⟩) ?_
  rintro r N ⟨m, rfl, hm⟩
  rw [← hm]
  simp (config := { maxSteps := 4000000 }) only [↓sx0, ↓sx1, ↓sx2, ↓sx3, ↓sx4, ↓sx5, ↓sx6, sx0, sx1, sx2, sx3, sx4, sx5, sx6, tf126, ev3_hold, sxo, sxc, sxp, sxq, sxr, sxs, sxl, sxm, Int.reduceBEq, Int.reduceBNe, Int.reduceLT, Int.reduceLE, Int.reduceEq, Int.reduceGT, Int.reduceGE, Int.reduceToNat, ↓reduceIte, List.reduceReplicate, Nat.reduceAdd, Nat.reduceSub, Nat.reduceMul, Nat.reduceLT, Nat.reduceLeDiff, Nat.reduceBEq, Nat.reduceEqDiff]
theorem containsC_fn (w : World) (v : Value) (l : List Cls) (g : Nat) (cap : List Value) (p : Cls → Bool) (hs : Sl w v 7 (cat clc l)) (hb : l.length ≤ 1000) (hp : Tells w (fun _ => False) clv g cap p) :
    SX.Fn Tryz.prog 75 [v, .func (.func g) [].toArray cap.toArray] w (fun _ => False) fun r N => r = .bool (l.any p) := by
  obtain ⟨a, n, c, rfl⟩ := hs.shape
  refine walk [] [] (det0_ok _ _) Tryz.func75 rfl Tryz.ntmps75 res75 (by kernel_rfl) no_facts ?_
  simp (config := { maxSteps := 4000000 }) only [↓sx0, ↓sx1, ↓sx2, ↓sx3, ↓sx4, ↓sx5, ↓sx6, sx0, sx1, sx2, sx3, sx4, sx5, sx6, tf75, ev3_hold, sxo, sxc, sxp, sxq, sxr, sxs, sxl, sxm, Int.reduceBEq, Int.reduceBNe, Int.reduceLT, Int.reduceLE, Int.reduceEq, Int.reduceGT, Int.reduceGE, Int.reduceToNat, ↓reduceIte, List.reduceReplicate, Nat.reduceAdd, Nat.reduceSub, Nat.reduceMul, Nat.reduceLT, Nat.reduceLeDiff, Nat.reduceBEq, Nat.reduceEqDiff, det0]
  refine CallOb.pure (fun w' hp' => indexC_fn w' _ l g cap p (hs.hp (fun _ _ => id) hp') hb ⟨hp.1, fun w2 hk => hp.2 w2 (hk.into hp'.ext fun _ h => h.elim)⟩) ?_
  rintro r N ⟨m, rfl, hm⟩
  rw [← hm]
  simp (config := { maxSteps := 4000000 }) only [↓sx0, ↓sx1, ↓sx2, ↓sx3, ↓sx4, ↓sx5, ↓sx6, sx0, sx1, sx2, sx3, sx4, sx5, sx6, tf75, ev3_hold, sxo, sxc, sxp, sxq, sxr, sxs, sxl, sxm, Int.reduceBEq, Int.reduceBNe, Int.reduceLT, Int.reduceLE, Int.reduceEq, Int.reduceGT, Int.reduceGE, Int.reduceToNat, ↓reduceIte, List.reduceReplicate, Nat.reduceAdd, Nat.reduceSub, Nat.reduceMul, Nat.reduceLT, Nat.reduceLeDiff, Nat.reduceBEq, Nat.reduceEqDiff]
def sumB {α : Type} (f : α → Int) : List α → Int
  | [] => 0
  | x :: l => f x + sumB f l
theorem sumB_append {α : Type} (f : α → Int) (l m : List α) : sumB f (l ++ m) = sumB f l + sumB f m := by
  induction l with
  | nil => simp [sumB]
  | cons x l ih => simp only [List.cons_append, sumB, ih]; omega
theorem sumB_take {α : Type} (f : α → Int) {l : List α} {i : Nat} {x : α} (h : l[i]? = some x) : sumB f (l.take (i + 1)) = sumB f (l.take i) + f x := by
  rw [List.take_succ, h, sumB_append]
  simp [sumB]
theorem sumB_bound {α : Type} (f : α → Int) (M : Nat) (l : List α) (h : ∀ x ∈ l, 0 ≤ f x ∧ f x ≤ M) : 0 ≤ sumB f l ∧ sumB f l ≤ ((l.length * M : Nat) : Int) := by
  induction l with
  | nil => simp [sumB]
  | cons x l ih =>
    have h1 := h x List.mem_cons_self
    have h2 := ih fun y hy => h y (List.mem_cons_of_mem _ hy)
    simp only [sumB, List.length_cons, Nat.succ_mul]
    omega
def lowM (x : Int × Int × Int) : Int := x.1 * x.2.2
def highM (x : Int × Int × Int) : Int := x.2.1 * x.2.2
theorem goodM {x : Int × Int × Int} (h : badL x = false) : (0 ≤ lowM x ∧ lowM x ≤ (50000 : Nat)) ∧ (0 ≤ highM x ∧ highM x ≤ (50000 : Nat)) ∧ lowM x ≤ highM x := by
  have h := (badL_iff x).1 h
  unfold lowM highM
  refine ⟨⟨Int.mul_nonneg h.1 h.2.2.2.1, Int.le_trans (Int.mul_le_mul (by omega : x.1 ≤ 1000) (by omega : x.2.2 ≤ 50) (by omega) (by omega)) (by decide)⟩, ⟨Int.mul_nonneg (by omega) h.2.2.2.1, Int.le_trans (Int.mul_le_mul (by omega : x.2.1 ≤ 1000) (by omega : x.2.2 ≤ 50) (by omega) (by omega)) (by decide)⟩, Int.mul_le_mul_of_nonneg_right h.2.1 h.2.2.2.1⟩
def loadE (b : Cls) (l : List (Int × Int × Int)) : Int := if clsB b then (if l.length > 10 then 2 else if l.any badL then 52 else 0) else 50
theorem loadE_zero {b : Cls} {l : List (Int × Int × Int)} (h : loadE b l = 0) : clsB b = true ∧ l.length ≤ 10 ∧ ∀ x ∈ l, badL x = false := by
  unfold loadE at h
  split at h
  · rename_i h1
    split at h
    · cases h
    · split at h
      · cases h
      · rename_i h2 h3
        refine ⟨h1, by omega, fun x hx => ?_⟩
        rw [Bool.not_eq_true, List.any_eq_false] at h3
        simpa using h3 x hx
  · cases h
theorem loaded_fn (w : World) (v : Value) (b : Cls) (l : List (Int × Int × Int)) (hs : Sl w v 3 (cat ldc l)) (hl : l.length ≤ 1000) :
    SX.Fn Tryz.prog 80 [clv b, v] w (fun _ => False) fun r N => r = I (loadE b l) := by
  obtain ⟨a, n, c, rfl⟩ := hs.shape
  have hn := hs.le ldc_len (by omega)
  subst hn
  have dn : ∀ xs, detL 126 xs = none := fun _ => rfl
  unfold loadE
  unfold clv
  cases h : clsB b with
  | false =>
    refine walk [] [] (detL_ok _ _) Tryz.func80 rfl Tryz.ntmps80 res80 (by kernel_rfl) no_facts ?_
    simp (config := { maxSteps := 4000000 }) only [↓sx0, ↓sx1, ↓sx2, ↓sx3, ↓sx4, ↓sx5, ↓sx6, sx0, sx1, sx2, sx3, sx4, sx5, sx6, tf80, ev3_hold, sxo, sxc, sxp, sxq, sxr, sxs, sxl, sxm, Int.reduceBEq, Int.reduceBNe, Int.reduceLT, Int.reduceLE, Int.reduceEq, Int.reduceGT, Int.reduceGE, Int.reduceToNat, ↓reduceIte, List.reduceReplicate, Nat.reduceAdd, Nat.reduceSub, Nat.reduceMul, Nat.reduceLT, Nat.reduceLeDiff, Nat.reduceBEq, Nat.reduceEqDiff, detL_eq, h]
  | true =>
  by_cases h2 : l.length > 10
  · have e1 : ((l.length : Int) > 10) = True := eq_true (by omega)
    rw [if_pos rfl, if_pos h2]
    refine walk [] [] (detL_ok _ _) Tryz.func80 rfl Tryz.ntmps80 res80 (by kernel_rfl) no_facts ?_
    simp (config := { maxSteps := 4000000 }) only [↓sx0, ↓sx1, ↓sx2, ↓sx3, ↓sx4, ↓sx5, ↓sx6, sx0, sx1, sx2, sx3, sx4, sx5, sx6, tf80, ev3_hold, sxo, sxc, sxp, sxq, sxr, sxs, sxl, sxm, Int.reduceBEq, Int.reduceBNe, Int.reduceLT, Int.reduceLE, Int.reduceEq, Int.reduceGT, Int.reduceGE, Int.reduceToNat, ↓reduceIte, List.reduceReplicate, Nat.reduceAdd, Nat.reduceSub, Nat.reduceMul, Nat.reduceLT, Nat.reduceLeDiff, Nat.reduceBEq, Nat.reduceEqDiff, detL_eq, h, e1]
  have e1 : ((l.length : Int) > 10) = False := eq_false (by omega)
  rw [if_pos rfl, if_neg h2]
  refine walk [] [] (detL_ok _ _) Tryz.func80 rfl Tryz.ntmps80 res80 (by kernel_rfl) no_facts ?_
  simp (config := { maxSteps := 4000000 }) only [↓sx0, ↓sx1, ↓sx2, ↓sx3, ↓sx4, ↓sx5, ↓sx6, sx0, sx1, sx2, sx3, sx4, sx5, sx6, tf80, ev3_hold, sxo, sxc, sxp, sxq, sxr, sxs, sxl, sxm, Int.reduceBEq, Int.reduceBNe, Int.reduceLT, Int.reduceLE, Int.reduceEq, Int.reduceGT, Int.reduceGE, Int.reduceToNat, ↓reduceIte, List.reduceReplicate, Nat.reduceAdd, Nat.reduceSub, Nat.reduceMul, Nat.reduceLT, Nat.reduceLeDiff, Nat.reduceBEq, Nat.reduceEqDiff, detL_eq, h, e1, dn]
  refine CallOb.pureH (fun w' hp => containsL_fn w' _ l _ [] badL (hs.hp (fun _ _ => id) hp) hl (tells_badL w')) ?_
  rintro r N rfl
  refine ⟨?_⟩
  cases hb : l.any badL with
  | true =>
    simp (config := { maxSteps := 4000000 }) only [↓sx0, ↓sx1, ↓sx2, ↓sx3, ↓sx4, ↓sx5, ↓sx6, sx0, sx1, sx2, sx3, sx4, sx5, sx6, tf80, ev3_hold, sxo, sxc, sxp, sxq, sxr, sxs, sxl, sxm, Int.reduceBEq, Int.reduceBNe, Int.reduceLT, Int.reduceLE, Int.reduceEq, Int.reduceGT, Int.reduceGE, Int.reduceToNat, ↓reduceIte, List.reduceReplicate, Nat.reduceAdd, Nat.reduceSub, Nat.reduceMul, Nat.reduceLT, Nat.reduceLeDiff, Nat.reduceBEq, Nat.reduceEqDiff]
  | false =>
    simp (config := { maxSteps := 4000000 }) only [↓sx0, ↓sx1, ↓sx2, ↓sx3, ↓sx4, ↓sx5, ↓sx6, sx0, sx1, sx2, sx3, sx4, sx5, sx6, tf80, ev3_hold, sxo, sxc, sxp, sxq, sxr, sxs, sxl, sxm, Int.reduceBEq, Int.reduceBNe, Int.reduceLT, Int.reduceLE, Int.reduceEq, Int.reduceGT, Int.reduceGE, Int.reduceToNat, ↓reduceIte, List.reduceReplicate, Nat.reduceAdd, Nat.reduceSub, Nat.reduceMul, Nat.reduceLT, Nat.reduceLeDiff, Nat.reduceBEq, Nat.reduceEqDiff]
theorem ld_cell2 {w0 : Base} {H : List HO} {b o1 o2 : Nat} {T : TypeId} {cs : List Value} {v : Value} {K : SV → Prop} (h : HO.cells b T cs ∈ H) (hv : cs[o1 + o2]? = some v) (hK : K (.v v)) : hold (LdOb w0 H (((⟨b, 0, none⟩ : Addr).add o1).add o2) none K) ⟨0⟩ := by
  rw [add_add]
  exact ld_cella h hv hK
theorem moments_fn (w : World) (v : Value) (l : List (Int × Int × Int)) (hs : Sl w v 3 (cat ldc l)) (hl : l.length ≤ 1000) (hg : ∀ x ∈ l, badL x = false) :
    SX.Fn Tryz.prog 81 [v] w (fun _ => False) fun r N => r = .tuple #[I (sumB lowM l), I (sumB highM l)] := by
  obtain ⟨a, n, c, rfl⟩ := hs.shape
  have hn := hs.le ldc_len (by omega)
  subst hn
  have hr := hs.rd0
  have b1 := fun i => sumB_bound lowM 50000 (l.take i) fun x hx => (goodM (hg x (List.mem_of_mem_take hx))).1
  have b2 := fun i => sumB_bound highM 50000 (l.take i) fun x hx => (goodM (hg x (List.mem_of_mem_take hx))).2.1
  have b3 : ∀ i, (l.take i).length * 50000 ≤ 50000000 := fun i => by
    rw [List.length_take]
    have : min i l.length ≤ 1000 := by omega
    omega
  obtain ⟨A, hA⟩ : ∃ A : Nat → Int, ∀ i, sumB lowM (l.take i) = A i := ⟨_, fun _ => rfl⟩
  obtain ⟨B, hB⟩ : ∃ B : Nat → Int, ∀ i, sumB highM (l.take i) = B i := ⟨_, fun _ => rfl⟩
  have hAs : ∀ i x, l[i]? = some x → A (i + 1) = A i + x.1 * x.2.2 := fun i x h => by rw [← hA, ← hA, sumB_take lowM h]; rfl
  have hBs : ∀ i x, l[i]? = some x → B (i + 1) = B i + x.2.1 * x.2.2 := fun i x h => by rw [← hB, ← hB, sumB_take highM h]; rfl
  have hA0 : A 0 = 0 := by rw [← hA]; rfl
  have hB0 : B 0 = 0 := by rw [← hB]; rfl
  have hAl : A l.length = sumB lowM l := by rw [← hA, List.take_length]
  have hBl : B l.length = sumB highM l := by rw [← hB, List.take_length]
  simp only [hA] at b1
  simp only [hB] at b2
  rw [← hAl, ← hBl]
  refine walk [5] [] (det0_ok _ _) Tryz.func81 rfl Tryz.ntmps81 res81 (by kernel_rfl) no_facts ?_
  simp (config := { maxSteps := 4000000 }) only [↓sx0, ↓sx1, ↓sx2, ↓sx3, ↓sx4, ↓sx5, ↓sx6, sx0, sx1, sx2, sx3, sx4, sx5, sx6, tf81, ev3_hold, sxo, sxc, sxp, sxq, sxr, sxs, sxl, sxm, Int.reduceBEq, Int.reduceBNe, Int.reduceLT, Int.reduceLE, Int.reduceEq, Int.reduceGT, Int.reduceGE, Int.reduceToNat, ↓reduceIte, List.reduceReplicate, Nat.reduceAdd, Nat.reduceSub, Nat.reduceMul, Nat.reduceLT, Nat.reduceLeDiff, Nat.reduceBEq, Nat.reduceEqDiff]
  refine loop_constH [] (HImp.refl _ _) [(2, 3), (5, 5), (8, 28)] (fun i : Nat => [(2, I (A i)), (3, I (B i)), (8, I i)]) (fun i H1 => i ≤ l.length ∧ H1 = []) (fun i => l.length - i) 0 ?_ ⟨Nat.zero_le _, rfl⟩ ?_
  · rw [hA0, hB0]
    simp (config := { maxSteps := 4000000 }) only [↓sx0, ↓sx1, ↓sx2, ↓sx3, ↓sx4, ↓sx5, ↓sx6, sx0, sx1, sx2, sx3, sx4, sx5, sx6, tf81, ev3_hold, sxo, sxc, sxp, sxq, sxr, sxs, sxl, sxm, Int.reduceBEq, Int.reduceBNe, Int.reduceLT, Int.reduceLE, Int.reduceEq, Int.reduceGT, Int.reduceGE, Int.reduceToNat, ↓reduceIte, List.reduceReplicate, Nat.reduceAdd, Nat.reduceSub, Nat.reduceMul, Nat.reduceLT, Nat.reduceLeDiff, Nat.reduceBEq, Nat.reduceEqDiff]
    try simp
  rintro i H1 g1 ⟨hi, rfl⟩
  by_cases hin : i = l.length
  · have e7 : ((i : Int) < (l.length : Int)) = False := eq_false (by omega)
    subst hin
    refine ⟨?_⟩
    simp (config := { maxSteps := 4000000 }) only [↓sx0, ↓sx1, ↓sx2, ↓sx3, ↓sx4, ↓sx5, ↓sx6, sx0, sx1, sx2, sx3, sx4, sx5, sx6, tf81, ev3_hold, sxo, sxc, sxp, sxq, sxr, sxs, sxl, sxm, Int.reduceBEq, Int.reduceBNe, Int.reduceLT, Int.reduceLE, Int.reduceEq, Int.reduceGT, Int.reduceGE, Int.reduceToNat, ↓reduceIte, List.reduceReplicate, Nat.reduceAdd, Nat.reduceSub, Nat.reduceMul, Nat.reduceLT, Nat.reduceLeDiff, Nat.reduceBEq, Nat.reduceEqDiff, e7]
  have e7 : ((i : Int) < (l.length : Int)) = True := eq_true (by omega)
  have e2 : wr (i + 1) = ((i + 1 : Nat) : Int) := (wrap_id (by omega)).trans (by omega)
  have hil : i < l.length := by omega
  have hu := List.getElem?_eq_getElem hil
  obtain ⟨x, hx⟩ : ∃ x, l[i] = x := ⟨_, rfl⟩
  rw [hx] at hu
  have hgx := goodM (hg x (by rw [← hx]; exact List.getElem_mem hil))
  unfold lowM highM at hgx
  have c1 := hAs i x hu
  have c2 := hBs i x hu
  have d1 := b1 i
  have d2 := b2 i
  have d3 := b3 i
  have w1 : wr (x.1 * x.2.2) = x.1 * x.2.2 := wrap_id (by omega)
  have w2 : wr (x.2.1 * x.2.2) = x.2.1 * x.2.2 := wrap_id (by omega)
  have w3 : wr (A i + x.1 * x.2.2) = A (i + 1) := by rw [c1]; exact wrap_id (by omega)
  have w4 : wr (B i + x.2.1 * x.2.2) = B (i + 1) := by rw [c2]; exact wrap_id (by omega)
  refine ⟨?_⟩
  simp (config := { maxSteps := 4000000 }) only [↓sx0, ↓sx1, ↓sx2, ↓sx3, ↓sx4, ↓sx5, ↓sx6, sx0, sx1, sx2, sx3, sx4, sx5, sx6, tf81, ev3_hold, sxo, sxc, sxp, sxq, sxr, sxs, sxl, sxm, Int.reduceBEq, Int.reduceBNe, Int.reduceLT, Int.reduceLE, Int.reduceEq, Int.reduceGT, Int.reduceGE, Int.reduceToNat, ↓reduceIte, List.reduceReplicate, Nat.reduceAdd, Nat.reduceSub, Nat.reduceMul, Nat.reduceLT, Nat.reduceLeDiff, Nat.reduceBEq, Nat.reduceEqDiff, e7]
  refine amid (at_n (hr _) ldc_len (by omega) hu fun ad => ?_)
  unfold ldc
  simp (config := { maxSteps := 4000000 }) only [↓sx0, ↓sx1, ↓sx2, ↓sx3, ↓sx4, ↓sx5, ↓sx6, sx0, sx1, sx2, sx3, sx4, sx5, sx6, tf81, ev3_hold, sxo, sxc, sxp, sxq, sxr, sxs, sxl, sxm, Int.reduceBEq, Int.reduceBNe, Int.reduceLT, Int.reduceLE, Int.reduceEq, Int.reduceGT, Int.reduceGE, Int.reduceToNat, ↓reduceIte, List.reduceReplicate, Nat.reduceAdd, Nat.reduceSub, Nat.reduceMul, Nat.reduceLT, Nat.reduceLeDiff, Nat.reduceBEq, Nat.reduceEqDiff]
  intro b1
  refine wr_cell (A := []) rfl (by simp) ?_
  simp (config := { maxSteps := 4000000 }) only [↓sx0, ↓sx1, ↓sx2, ↓sx3, ↓sx4, ↓sx5, ↓sx6, sx0, sx1, sx2, sx3, sx4, sx5, sx6, tf81, ev3_hold, sxo, sxc, sxp, sxq, sxr, sxs, sxl, sxm, Int.reduceBEq, Int.reduceBNe, Int.reduceLT, Int.reduceLE, Int.reduceEq, Int.reduceGT, Int.reduceGE, Int.reduceToNat, ↓reduceIte, List.reduceReplicate, Nat.reduceAdd, Nat.reduceSub, Nat.reduceMul, Nat.reduceLT, Nat.reduceLeDiff, Nat.reduceBEq, Nat.reduceEqDiff, List.take, List.drop, List.length_cons, List.length_nil, List.nil_append]
  refine ld_cell2 (cs := [I x.1, I x.2.1, I x.2.2]) List.mem_cons_self rfl ?_
  simp (config := { maxSteps := 4000000 }) only [↓sx0, ↓sx1, ↓sx2, ↓sx3, ↓sx4, ↓sx5, ↓sx6, sx0, sx1, sx2, sx3, sx4, sx5, sx6, tf81, ev3_hold, sxo, sxc, sxp, sxq, sxr, sxs, sxl, sxm, Int.reduceBEq, Int.reduceBNe, Int.reduceLT, Int.reduceLE, Int.reduceEq, Int.reduceGT, Int.reduceGE, Int.reduceToNat, ↓reduceIte, List.reduceReplicate, Nat.reduceAdd, Nat.reduceSub, Nat.reduceMul, Nat.reduceLT, Nat.reduceLeDiff, Nat.reduceBEq, Nat.reduceEqDiff]
  refine ld_cella (cs := [I x.1, I x.2.1, I x.2.2]) List.mem_cons_self rfl ?_
  simp (config := { maxSteps := 4000000 }) only [↓sx0, ↓sx1, ↓sx2, ↓sx3, ↓sx4, ↓sx5, ↓sx6, sx0, sx1, sx2, sx3, sx4, sx5, sx6, tf81, ev3_hold, sxo, sxc, sxp, sxq, sxr, sxs, sxl, sxm, Int.reduceBEq, Int.reduceBNe, Int.reduceLT, Int.reduceLE, Int.reduceEq, Int.reduceGT, Int.reduceGE, Int.reduceToNat, ↓reduceIte, List.reduceReplicate, Nat.reduceAdd, Nat.reduceSub, Nat.reduceMul, Nat.reduceLT, Nat.reduceLeDiff, Nat.reduceBEq, Nat.reduceEqDiff, w1, w3]
  refine ld_cell2 (cs := [I x.1, I x.2.1, I x.2.2]) List.mem_cons_self rfl ?_
  simp (config := { maxSteps := 4000000 }) only [↓sx0, ↓sx1, ↓sx2, ↓sx3, ↓sx4, ↓sx5, ↓sx6, sx0, sx1, sx2, sx3, sx4, sx5, sx6, tf81, ev3_hold, sxo, sxc, sxp, sxq, sxr, sxs, sxl, sxm, Int.reduceBEq, Int.reduceBNe, Int.reduceLT, Int.reduceLE, Int.reduceEq, Int.reduceGT, Int.reduceGE, Int.reduceToNat, ↓reduceIte, List.reduceReplicate, Nat.reduceAdd, Nat.reduceSub, Nat.reduceMul, Nat.reduceLT, Nat.reduceLeDiff, Nat.reduceBEq, Nat.reduceEqDiff]
  refine ld_cella (cs := [I x.1, I x.2.1, I x.2.2]) List.mem_cons_self rfl ?_
  simp (config := { maxSteps := 4000000 }) only [↓sx0, ↓sx1, ↓sx2, ↓sx3, ↓sx4, ↓sx5, ↓sx6, sx0, sx1, sx2, sx3, sx4, sx5, sx6, tf81, ev3_hold, sxo, sxc, sxp, sxq, sxr, sxs, sxl, sxm, Int.reduceBEq, Int.reduceBNe, Int.reduceLT, Int.reduceLE, Int.reduceEq, Int.reduceGT, Int.reduceGE, Int.reduceToNat, ↓reduceIte, List.reduceReplicate, Nat.reduceAdd, Nat.reduceSub, Nat.reduceMul, Nat.reduceLT, Nat.reduceLeDiff, Nat.reduceBEq, Nat.reduceEqDiff, w2, w4, e2]
  exact ⟨i + 1, _, ⟨rfl, rfl, rfl⟩, HImp.nil _ _, ⟨by omega, rfl⟩, by omega⟩
end Go.Proofs.YtpmodggfogahhaaGreatDoor

