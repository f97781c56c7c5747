/- Parts of a proof: the symbolic walk and what it shows of single functions. -/
import Derived.Test.YtogicfoigeongaaGreatDoorP2
import Derived.Test.YtogicfoigeongaaGreatDoorC5
set_option linter.all false
namespace Go.Proofs.YtogicfoigeongaaGreatDoor
open Go.RowKit Go.SX
set_option maxRecDepth 10000
set_option maxHeartbeats 0
set_option linter.unusedSimpArgs false
set_option linter.unusedVariables false
noncomputable def rmpE (c : Cht) (b : Cls) (r : Rmp) : Int := if c.okB then (if clsB b then (if rampB c r then 0 else 11) else 50) else 10
theorem isCellB_eq {c : Cht} (hok : c.ok) (n : Int) : isCellB c.wide c.high n = inB n 0 ((c.depth.length : Int) - 1) := by
  obtain ⟨_, _, h1, h2, h3⟩ := hok.dims
  have h4 : (c.depth.length : Int) = c.wide * c.high := hok.2.2.1
  have h5 : c.depth.length ≤ 144 := by rw [h3]; exact Nat.le_trans (Nat.mul_le_mul h1.2 h2.2) (by decide)
  unfold isCellB
  rw [← h4, show wr (c.depth.length : Int) = (c.depth.length : Int) from wrap_id (by omega), show wr ((c.depth.length : Int) - 1) = (c.depth.length : Int) - 1 from wrap_id (by omega)]
theorem rramp_fn (w : World) (hw : Ways w) (v : Value) (c : Cht) (hc : ChOk w v c) (hsm : c.small) (b : Cls) (r : Rmp) :
    SX.Fn Tryz.prog 16 [v, clv b, rmv r] w (fun _ => False) fun q N => q = I (rmpE c b r) := by
  have hc0 := hc
  have hD := detO_ok (X := fun _ => False) hw hc (fun _ _ => id)
  have hck : detO v c 14 [v] = some (I (if c.okB then 0 else 10)) := (detM_check (v := v) hsm).2
  obtain ⟨sD, sT, sS, rfl, hsD, hsT, hsS⟩ := hc
  have dq := detO_eq (.agg #[I c.wide, I c.high, sD, sT, sS]) c
  have dn : (∀ xs, detO (.agg #[I c.wide, I c.high, sD, sT, sS]) c 42 xs = none) := fun _ => rfl
  have hir := fun (hok : c.ok) (H : List HO) w' (hp : Hp ⟨w, fun _ => False⟩ H w') => isRamp_fn w' (hw.hp hp) _ c r (hc0.hp hp) hok
  unfold clv rmv rmpE
  unfold rmv at hir
  refine walk [] [] hD Tryz.func16 rfl Tryz.ntmps16 res16 (by kernel_rfl) no_facts ?_
  cases hok : c.okB with
  | false =>
    rw [hok] at hck
    simp (config := { maxSteps := 4000000 }) only [↓sx0, ↓sx1, ↓sx2, ↓sx3, ↓sx4, ↓sx5, ↓sx6, sx0, sx1, sx2, sx3, sx4, sx5, sx6, tf16, ev3_hold, sxo, sxc, sxp, sxq, sxr, sxs, sxl, sxm, Int.reduceBEq, Int.reduceBNe, Int.reduceLT, Int.reduceLE, Int.reduceEq, Int.reduceGT, Int.reduceGE, Int.reduceToNat, ↓reduceIte, List.reduceReplicate, Nat.reduceAdd, Nat.reduceSub, Nat.reduceMul, Nat.reduceLT, Nat.reduceLeDiff, Nat.reduceBEq, Nat.reduceEqDiff, hck]
  | true =>
  rw [hok] at hck
  have hok' := (okB_iff c).1 hok
  cases hcl : clsB b with
  | false =>
    have hcl' : clsB ⟨b.draught, b.seas, b.move, b.idle, b.reserve, b.seats, b.moment⟩ = false := hcl
    simp (config := { maxSteps := 4000000 }) only [↓sx0, ↓sx1, ↓sx2, ↓sx3, ↓sx4, ↓sx5, ↓sx6, sx0, sx1, sx2, sx3, sx4, sx5, sx6, tf16, ev3_hold, sxo, sxc, sxp, sxq, sxr, sxs, sxl, sxm, Int.reduceBEq, Int.reduceBNe, Int.reduceLT, Int.reduceLE, Int.reduceEq, Int.reduceGT, Int.reduceGE, Int.reduceToNat, ↓reduceIte, List.reduceReplicate, Nat.reduceAdd, Nat.reduceSub, Nat.reduceMul, Nat.reduceLT, Nat.reduceLeDiff, Nat.reduceBEq, Nat.reduceEqDiff, hck, dq, hcl']
  | true =>
  have hcl' : clsB ⟨b.draught, b.seas, b.move, b.idle, b.reserve, b.seats, b.moment⟩ = true := hcl
  simp (config := { maxSteps := 4000000 }) only [↓sx0, ↓sx1, ↓sx2, ↓sx3, ↓sx4, ↓sx5, ↓sx6, sx0, sx1, sx2, sx3, sx4, sx5, sx6, tf16, ev3_hold, sxo, sxc, sxp, sxq, sxr, sxs, sxl, sxm, Int.reduceBEq, Int.reduceBNe, Int.reduceLT, Int.reduceLE, Int.reduceEq, Int.reduceGT, Int.reduceGE, Int.reduceToNat, ↓reduceIte, List.reduceReplicate, Nat.reduceAdd, Nat.reduceSub, Nat.reduceMul, Nat.reduceLT, Nat.reduceLeDiff, Nat.reduceBEq, Nat.reduceEqDiff, hck, dq, hcl', dn]
  refine CallOb.pureH (fun w' hp => hir hok' _ w' hp) ?_
  rintro q N rfl
  cases hr : rampB c r with
  | false =>
    refine ⟨?_⟩
    simp (config := { maxSteps := 4000000 }) only [↓sx0, ↓sx1, ↓sx2, ↓sx3, ↓sx4, ↓sx5, ↓sx6, sx0, sx1, sx2, sx3, sx4, sx5, sx6, tf16, ev3_hold, sxo, sxc, sxp, sxq, sxr, sxs, sxl, sxm, Int.reduceBEq, Int.reduceBNe, Int.reduceLT, Int.reduceLE, Int.reduceEq, Int.reduceGT, Int.reduceGE, Int.reduceToNat, ↓reduceIte, List.reduceReplicate, Nat.reduceAdd, Nat.reduceSub, Nat.reduceMul, Nat.reduceLT, Nat.reduceLeDiff, Nat.reduceBEq, Nat.reduceEqDiff]
  | true =>
    refine ⟨?_⟩
    simp (config := { maxSteps := 4000000 }) only [↓sx0, ↓sx1, ↓sx2, ↓sx3, ↓sx4, ↓sx5, ↓sx6, sx0, sx1, sx2, sx3, sx4, sx5, sx6, tf16, ev3_hold, sxo, sxc, sxp, sxq, sxr, sxs, sxl, sxm, Int.reduceBEq, Int.reduceBNe, Int.reduceLT, Int.reduceLE, Int.reduceEq, Int.reduceGT, Int.reduceGE, Int.reduceToNat, ↓reduceIte, List.reduceReplicate, Nat.reduceAdd, Nat.reduceSub, Nat.reduceMul, Nat.reduceLT, Nat.reduceLeDiff, Nat.reduceBEq, Nat.reduceEqDiff]
theorem task_fn (w : World) (hw : Ways w) (v : Value) (c : Cht) (hc : ChOk w v c) (hok : c.ok) (tc ts : Int) :
    SX.Fn Tryz.prog 19 [v, .agg #[I tc, I ts]] w (fun _ => False) fun q N => q = .bool (inB tc 0 ((c.depth.length : Int) - 1) && inB ts 0 8) := by
  have hD := detO_ok (X := fun _ => False) hw hc (fun _ _ => id)
  obtain ⟨sD, sT, sS, rfl, hsD, hsT, hsS⟩ := hc
  have dq := detO_eq (.agg #[I c.wide, I c.high, sD, sT, sS]) c
  have hci : detO (.agg #[I c.wide, I c.high, sD, sT, sS]) c 43 [.agg #[I c.wide, I c.high, sD, sT, sS], I tc] = some (.bool (isCellB c.wide c.high tc)) := rfl
  rw [isCellB_eq hok] at hci
  refine walk [] [] hD Tryz.func19 rfl Tryz.ntmps19 res19 (by kernel_rfl) no_facts ?_
  cases h1 : inB tc 0 ((c.depth.length : Int) - 1) with
  | false =>
    rw [h1] at hci
    simp (config := { maxSteps := 4000000 }) only [↓sx0, ↓sx1, ↓sx2, ↓sx3, ↓sx4, ↓sx5, ↓sx6, sx0, sx1, sx2, sx3, sx4, sx5, sx6, tf19, ev3_hold, sxo, sxc, sxp, sxq, sxr, sxs, sxl, sxm, Int.reduceBEq, Int.reduceBNe, Int.reduceLT, Int.reduceLE, Int.reduceEq, Int.reduceGT, Int.reduceGE, Int.reduceToNat, ↓reduceIte, List.reduceReplicate, Nat.reduceAdd, Nat.reduceSub, Nat.reduceMul, Nat.reduceLT, Nat.reduceLeDiff, Nat.reduceBEq, Nat.reduceEqDiff, hci]
  | true =>
    rw [h1] at hci
    simp (config := { maxSteps := 4000000 }) only [↓sx0, ↓sx1, ↓sx2, ↓sx3, ↓sx4, ↓sx5, ↓sx6, sx0, sx1, sx2, sx3, sx4, sx5, sx6, tf19, ev3_hold, sxo, sxc, sxp, sxq, sxr, sxs, sxl, sxm, Int.reduceBEq, Int.reduceBNe, Int.reduceLT, Int.reduceLE, Int.reduceEq, Int.reduceGT, Int.reduceGE, Int.reduceToNat, ↓reduceIte, List.reduceReplicate, Nat.reduceAdd, Nat.reduceSub, Nat.reduceMul, Nat.reduceLT, Nat.reduceLeDiff, Nat.reduceBEq, Nat.reduceEqDiff, hci, dq]
theorem rgo_fn (w : World) (hw : Ways w) (v : Value) (c : Cht) (hc : ChOk w v c) (hsm : c.small) (b : Cls) (r : Rmp) (t f tc ts : Int) :
    SX.Fn Tryz.prog 6 [v, clv b, rmv r, I t, I f, .agg #[I tc, I ts]] w (fun _ => False) fun q N => q = I (goE c b r t f tc ts) := by
  have hc0 := hc
  have hD := detO_ok (X := fun _ => False) hw hc (fun _ _ => id)
  have hra := fun (H : List HO) w' (hp : Hp ⟨w, fun _ => False⟩ H w') => rramp_fn w' (hw.hp hp) v c (hc0.hp hp) hsm b r
  have hta := fun (hok : c.ok) (H : List HO) w' (hp : Hp ⟨w, fun _ => False⟩ H w') => task_fn w' (hw.hp hp) v c (hc0.hp hp) hok tc ts
  obtain ⟨sD, sT, sS, rfl, hsD, hsT, hsS⟩ := hc
  obtain ⟨aT, nT, cT, rfl⟩ := hsT.shape
  have hnT := hsT.le spc_len (by omega)
  subst hnT
  have htl : c.tide.length ≤ 100 := hsm.2.1
  have dq := detO_eq (.agg #[I c.wide, I c.high, sD, .slice aT c.tide.length cT, sS]) c
  have hti : detO (.agg #[I c.wide, I c.high, sD, .slice aT c.tide.length cT, sS]) c 17 [.agg #[I c.wide, I c.high, sD, .slice aT c.tide.length cT, sS], I t] = some (.bool (inB t 0 (wr ((c.tide.length : Int) - 1)))) := rfl
  rw [show wr ((c.tide.length : Int) - 1) = (c.tide.length : Int) - 1 from wrap_id (by omega)] at hti
  have dn : (∀ xs, detO (.agg #[I c.wide, I c.high, sD, .slice aT c.tide.length cT, sS]) c 16 xs = none) ∧ (∀ xs, detO (.agg #[I c.wide, I c.high, sD, .slice aT c.tide.length cT, sS]) c 19 xs = none) := ⟨fun _ => rfl, fun _ => rfl⟩
  unfold clv rmv goE staE
  unfold clv rmv at hra
  refine walk [] [] hD Tryz.func6 rfl Tryz.ntmps6 res6 (by kernel_rfl) no_facts ?_
  simp (config := { maxSteps := 4000000 }) only [↓sx0, ↓sx1, ↓sx2, ↓sx3, ↓sx4, ↓sx5, ↓sx6, sx0, sx1, sx2, sx3, sx4, sx5, sx6, tf6, ev3_hold, sxo, sxc, sxp, sxq, sxr, sxs, sxl, sxm, Int.reduceBEq, Int.reduceBNe, Int.reduceLT, Int.reduceLE, Int.reduceEq, Int.reduceGT, Int.reduceGE, Int.reduceToNat, ↓reduceIte, List.reduceReplicate, Nat.reduceAdd, Nat.reduceSub, Nat.reduceMul, Nat.reduceLT, Nat.reduceLeDiff, Nat.reduceBEq, Nat.reduceEqDiff, dn]
  refine CallOb.pureH (fun w' hp => hra _ w' hp) ?_
  rintro q N rfl
  unfold rmpE
  cases hok : c.okB with
  | false =>
    refine ⟨?_⟩
    simp (config := { maxSteps := 4000000 }) only [↓sx0, ↓sx1, ↓sx2, ↓sx3, ↓sx4, ↓sx5, ↓sx6, sx0, sx1, sx2, sx3, sx4, sx5, sx6, tf6, ev3_hold, sxo, sxc, sxp, sxq, sxr, sxs, sxl, sxm, Int.reduceBEq, Int.reduceBNe, Int.reduceLT, Int.reduceLE, Int.reduceEq, Int.reduceGT, Int.reduceGE, Int.reduceToNat, ↓reduceIte, List.reduceReplicate, Nat.reduceAdd, Nat.reduceSub, Nat.reduceMul, Nat.reduceLT, Nat.reduceLeDiff, Nat.reduceBEq, Nat.reduceEqDiff]
  | true =>
  have hok' := (okB_iff c).1 hok
  cases hcl : clsB b with
  | false =>
    refine ⟨?_⟩
    simp (config := { maxSteps := 4000000 }) only [↓sx0, ↓sx1, ↓sx2, ↓sx3, ↓sx4, ↓sx5, ↓sx6, sx0, sx1, sx2, sx3, sx4, sx5, sx6, tf6, ev3_hold, sxo, sxc, sxp, sxq, sxr, sxs, sxl, sxm, Int.reduceBEq, Int.reduceBNe, Int.reduceLT, Int.reduceLE, Int.reduceEq, Int.reduceGT, Int.reduceGE, Int.reduceToNat, ↓reduceIte, List.reduceReplicate, Nat.reduceAdd, Nat.reduceSub, Nat.reduceMul, Nat.reduceLT, Nat.reduceLeDiff, Nat.reduceBEq, Nat.reduceEqDiff]
  | true =>
  cases hr : rampB c r with
  | false =>
    refine ⟨?_⟩
    simp (config := { maxSteps := 4000000 }) only [↓sx0, ↓sx1, ↓sx2, ↓sx3, ↓sx4, ↓sx5, ↓sx6, sx0, sx1, sx2, sx3, sx4, sx5, sx6, tf6, ev3_hold, sxo, sxc, sxp, sxq, sxr, sxs, sxl, sxm, Int.reduceBEq, Int.reduceBNe, Int.reduceLT, Int.reduceLE, Int.reduceEq, Int.reduceGT, Int.reduceGE, Int.reduceToNat, ↓reduceIte, List.reduceReplicate, Nat.reduceAdd, Nat.reduceSub, Nat.reduceMul, Nat.reduceLT, Nat.reduceLeDiff, Nat.reduceBEq, Nat.reduceEqDiff]
  | true =>
  cases h1 : inB t 0 ((c.tide.length : Int) - 1) with
  | false =>
    rw [h1] at hti
    refine ⟨?_⟩
    simp (config := { maxSteps := 4000000 }) only [↓sx0, ↓sx1, ↓sx2, ↓sx3, ↓sx4, ↓sx5, ↓sx6, sx0, sx1, sx2, sx3, sx4, sx5, sx6, tf6, ev3_hold, sxo, sxc, sxp, sxq, sxr, sxs, sxl, sxm, Int.reduceBEq, Int.reduceBNe, Int.reduceLT, Int.reduceLE, Int.reduceEq, Int.reduceGT, Int.reduceGE, Int.reduceToNat, ↓reduceIte, List.reduceReplicate, Nat.reduceAdd, Nat.reduceSub, Nat.reduceMul, Nat.reduceLT, Nat.reduceLeDiff, Nat.reduceBEq, Nat.reduceEqDiff, hti]
  | true =>
  rw [h1] at hti
  cases h2 : inB f 0 5000 with
  | false =>
    refine ⟨?_⟩
    simp (config := { maxSteps := 4000000 }) only [↓sx0, ↓sx1, ↓sx2, ↓sx3, ↓sx4, ↓sx5, ↓sx6, sx0, sx1, sx2, sx3, sx4, sx5, sx6, tf6, ev3_hold, sxo, sxc, sxp, sxq, sxr, sxs, sxl, sxm, Int.reduceBEq, Int.reduceBNe, Int.reduceLT, Int.reduceLE, Int.reduceEq, Int.reduceGT, Int.reduceGE, Int.reduceToNat, ↓reduceIte, List.reduceReplicate, Nat.reduceAdd, Nat.reduceSub, Nat.reduceMul, Nat.reduceLT, Nat.reduceLeDiff, Nat.reduceBEq, Nat.reduceEqDiff, hti, dq, h2]
  | true =>
  refine ⟨?_⟩
  simp (config := { maxSteps := 4000000 }) only [↓sx0, ↓sx1, ↓sx2, ↓sx3, ↓sx4, ↓sx5, ↓sx6, sx0, sx1, sx2, sx3, sx4, sx5, sx6, tf6, ev3_hold, sxo, sxc, sxp, sxq, sxr, sxs, sxl, sxm, Int.reduceBEq, Int.reduceBNe, Int.reduceLT, Int.reduceLE, Int.reduceEq, Int.reduceGT, Int.reduceGE, Int.reduceToNat, ↓reduceIte, List.reduceReplicate, Nat.reduceAdd, Nat.reduceSub, Nat.reduceMul, Nat.reduceLT, Nat.reduceLeDiff, Nat.reduceBEq, Nat.reduceEqDiff, hti, dq, h2, dn]
  refine CallOb.pureH (fun w' hp => hta hok' _ w' hp) ?_
  rintro q N2 rfl
  cases h3 : (inB tc 0 ((c.depth.length : Int) - 1) && inB ts 0 8) with
  | false =>
    refine ⟨?_⟩
    simp (config := { maxSteps := 4000000 }) only [↓sx0, ↓sx1, ↓sx2, ↓sx3, ↓sx4, ↓sx5, ↓sx6, sx0, sx1, sx2, sx3, sx4, sx5, sx6, tf6, ev3_hold, sxo, sxc, sxp, sxq, sxr, sxs, sxl, sxm, Int.reduceBEq, Int.reduceBNe, Int.reduceLT, Int.reduceLE, Int.reduceEq, Int.reduceGT, Int.reduceGE, Int.reduceToNat, ↓reduceIte, List.reduceReplicate, Nat.reduceAdd, Nat.reduceSub, Nat.reduceMul, Nat.reduceLT, Nat.reduceLeDiff, Nat.reduceBEq, Nat.reduceEqDiff]
  | true =>
    refine ⟨?_⟩
    simp (config := { maxSteps := 4000000 }) only [↓sx0, ↓sx1, ↓sx2, ↓sx3, ↓sx4, ↓sx5, ↓sx6, sx0, sx1, sx2, sx3, sx4, sx5, sx6, tf6, ev3_hold, sxo, sxc, sxp, sxq, sxr, sxs, sxl, sxm, Int.reduceBEq, Int.reduceBNe, Int.reduceLT, Int.reduceLE, Int.reduceEq, Int.reduceGT, Int.reduceGE, Int.reduceToNat, ↓reduceIte, List.reduceReplicate, Nat.reduceAdd, Nat.reduceSub, Nat.reduceMul, Nat.reduceLT, Nat.reduceLeDiff, Nat.reduceBEq, Nat.reduceEqDiff]
structure Ord5 where
  r : Rmp
  t : Int
  f : Int
  tc : Int
  ts : Int
def orv (o : Ord5) : Value := .agg #[I o.r.cell, I o.r.draught, I o.r.least, I o.r.most, I o.r.surf, I o.t, I o.f, I o.tc, I o.ts]
end Go.Proofs.YtogicfoigeongaaGreatDoor

namespace Go.Proofs.YtogicfoigeongaaGreatDoor
open Go.RowKit Go.SX
set_option maxRecDepth 10000
set_option maxHeartbeats 0
set_option linter.unusedSimpArgs false
set_option linter.unusedVariables false
structure Lax (b b' : Cls) : Prop where
  draught : b'.draught = b.draught
  move : b'.move = b.move
  idle : b'.idle = b.idle
  seas : b.seas ≤ b'.seas
theorem Lax.can {b b' : Cls} (h : Lax b b') {c : Cht} {t k : Nat} (hc : canB c b t k = true) : canB c b' t k = true := by
  unfold canB at hc ⊢
  rw [Bool.and_eq_true, decide_eq_true_eq, decide_eq_true_eq] at hc ⊢
  rw [h.draught]
  exact ⟨hc.1, Int.le_trans hc.2 h.seas⟩
theorem Lax.run {b b' : Cls} (h : Lax b b') {c : Cht} {k t tc ts ts' : Nat} (hts : ts' ≤ ts) {i s x : Nat} {B : Int} (hr : (Vg.mk c b k t tc ts).R i s x B) : ∃ s', (Vg.mk c b' k t tc ts').R i s' x B ∧ (s' = ts' + 1 ∨ s' = s ∧ s ≤ ts') := by
  have key : ∀ y s s', (s' = ts' + 1 ∨ s' = s ∧ s ≤ ts') → ((Vg.mk c b' k t tc ts').st y s' = ts' + 1 ∨ (Vg.mk c b' k t tc ts').st y s' = (Vg.mk c b k t tc ts).st y s ∧ (Vg.mk c b k t tc ts).st y s ≤ ts') := by
    intro y s s' hs
    unfold Vg.st
    simp only []
    repeat' split
    all_goals omega
  have wge : ∀ x y, (Vg.mk c b' k t tc ts').wg x y = (Vg.mk c b k t tc ts).wg x y := fun x y => by
    unfold Vg.wg
    simp only [h.move, h.idle]
  induction hr with
  | zero => exact ⟨_, Vg.R.zero, key _ 0 0 (.inr ⟨rfl, Nat.zero_le _⟩)⟩
  | @step i s x y B _ hy hc ih =>
    obtain ⟨s', h1, h2⟩ := ih
    refine ⟨_, ?_, key y s s' h2⟩
    have := Vg.R.step h1 hy (h.can hc)
    rw [wge] at this
    exact this
theorem Lax.fin {b b' : Cls} (h : Lax b b') {c : Cht} {k t tc ts ts' : Nat} (hts : ts' ≤ ts) {i x : Nat} {B : Int} (hr : (Vg.mk c b k t tc ts).R i (ts + 1) x B) : (Vg.mk c b' k t tc ts').R i (ts' + 1) x B := by
  obtain ⟨s', h1, h2⟩ := h.run hts hr
  have : s' = ts' + 1 := by omega
  rwa [this] at h1
end Go.Proofs.YtogicfoigeongaaGreatDoor

namespace Go.Proofs.YtogicfoigeongaaGreatDoor
open Go.RowKit Go.SX Go.ChangeShapes Go.WideShapes Go.ChangeAt
set_option maxRecDepth 100000
theorem leaves7 {P : Program} {w : World} {vs : List Value} (h : Lvs P w [.int .i64, .int .i64, .int .i64, .int .i64, .int .i64, .int .i64, .int .i64] vs) : ∃ a b c d e f g, vs = [I a, I b, I c, I d, I e, I f, I g] := by
  cases h with | int _ h => cases h with | int _ h => cases h with | int _ h => cases h with | int _ h => cases h with | int _ h => cases h with | int _ h => cases h with | int _ h => cases h with | nil => exact ⟨_, _, _, _, _, _, _, rfl⟩
theorem leaves9 {P : Program} {w : World} {vs : List Value} (h : Lvs P w [.int .i64, .int .i64, .int .i64, .int .i64, .int .i64, .int .i64, .int .i64, .int .i64, .int .i64] vs) : ∃ a b c d e f g h i, vs = [I a, I b, I c, I d, I e, I f, I g, I h, I i] := by
  cases h with | int _ h => cases h with | int _ h => cases h with | int _ h => cases h with | int _ h => cases h with | int _ h => cases h with | int _ h => cases h with | int _ h => cases h with | int _ h => cases h with | int _ h => cases h with | nil => exact ⟨_, _, _, _, _, _, _, _, _, rfl⟩
theorem flat_class : flat Tryz.prog 4 27 = some [.int .i64, .int .i64, .int .i64, .int .i64, .int .i64, .int .i64, .int .i64] := by kernel_rfl
theorem flat_order : flat Tryz.prog 4 33 = some [.int .i64, .int .i64, .int .i64, .int .i64, .int .i64, .int .i64, .int .i64, .int .i64, .int .i64] := by kernel_rfl
theorem class_of {H : Type} {enc : TypeId × Value → H} {w : World} {base : Nat} {v : Value} {d : DataW H} {ps : List MemPlace} (h : Value.okWide Tryz.prog w .any base 27 v) (hd : DataW.Trod enc Tryz.prog w 0 (fun _ => true) true 27 v d ps) : ∃ b, v = clv b := by
  obtain ⟨cs, rfl⟩ := agg_of Tryz.underlying27 h
  obtain ⟨a, b, c, d, e, f, g, hl⟩ := leaves7 (lvs_of_Trod hd 4 flat_class)
  exact ⟨⟨a, b, c, d, e, f, g⟩, by rw [show cs = cs.toList.toArray by simp, show cs.toList = _ from hl]; rfl⟩
theorem order_of {H : Type} {enc : TypeId × Value → H} {w : World} {base : Nat} {v : Value} {d : DataW H} {ps : List MemPlace} (h : Value.okWide Tryz.prog w .any base 33 v) (hd : DataW.Trod enc Tryz.prog w 0 (fun _ => true) true 33 v d ps) : ∃ o, v = orv o := by
  obtain ⟨cs, rfl⟩ := agg_of Tryz.underlying33 h
  obtain ⟨a, b, c, d, e, f, g, h, i, hl⟩ := leaves9 (lvs_of_Trod hd 4 flat_order)
  exact ⟨⟨⟨a, b, c, d, e⟩, f, g, h, i⟩, by rw [show cs = cs.toList.toArray by simp, show cs.toList = _ from hl]; rfl⟩
end Go.Proofs.YtogicfoigeongaaGreatDoor

