/- Parts of a proof: the symbolic walk and what it shows of single functions. -/
import Derived.Test.YtcnlbnccbnapbaaDoorP7
set_option linter.all false
namespace Go.Proofs.YtcnlbnccbnapbaaDoor
open Go.RowKit Go.SX
set_option maxRecDepth 10000
set_option maxHeartbeats 0
set_option linter.unusedSimpArgs false
set_option linter.unusedVariables false
theorem same5_fn (w : World) (v v' : Value) (l m : List Int) (hs : Sl w v 1 (ints l)) (hs' : Sl w v' 1 (ints m)) (hb : l.length ≤ 1099511627776) : SX.Fn Tryd.prog 23 [v, v'] w (fun _ => False) fun v N => v = .bool (decide (l = m)) := by
  obtain ⟨a, n, c, rfl⟩ := hs.shape
  obtain ⟨a', n', c', rfl⟩ := hs'.shape
  have hn := hs.le i1_len (by omega)
  have hn' := hs'.le i1_len (by omega)
  have hr := hs.rd0
  have hr' := hs'.rd0
  refine walk [] [] (det0_ok _ _) Tryd.func23 rfl Tryd.ntmps23 res23 (by kernel_rfl) no_facts ?_
  by_cases hl : n = n'
  · subst hl
    simp (config := { maxSteps := 4000000 }) only [↓sx0, ↓sx1, ↓sx2, ↓sx3, ↓sx4, ↓sx5, ↓sx6, sx0, sx1, sx2, sx3, sx4, sx5, sx6, tf23, ev3_hold, sxo, sxc, sxp, sxq, sxr, sxs, sxl, sxm, Int.reduceBEq, Int.reduceBNe, Int.reduceLT, Int.reduceLE, Int.reduceEq, Int.reduceGT, Int.reduceGE, Int.reduceToNat, ↓reduceIte, List.reduceReplicate, Nat.reduceAdd, Nat.reduceSub, Nat.reduceMul, Nat.reduceLT, Nat.reduceLeDiff, Nat.reduceBEq, Nat.reduceEqDiff]
    refine loop_const [(4, 5), (11, 25)] (fun k : Nat => [(5, I k)]) (fun k H1 => H1 = [] ∧ k ≤ n ∧ (l = m ↔ l.drop k = m.drop k)) (fun k => n - k) 0 ?_ ⟨rfl, Nat.zero_le _, Iff.rfl⟩ ?_
    · simp (config := { maxSteps := 4000000 }) only [↓sx0, ↓sx1, ↓sx2, ↓sx3, ↓sx4, ↓sx5, ↓sx6, sx0, sx1, sx2, sx3, sx4, sx5, sx6, tf23, ev3_hold, sxo, sxc, sxp, sxq, sxr, sxs, sxl, sxm, Int.reduceBEq, Int.reduceBNe, Int.reduceLT, Int.reduceLE, Int.reduceEq, Int.reduceGT, Int.reduceGE, Int.reduceToNat, ↓reduceIte, List.reduceReplicate, Nat.reduceAdd, Nat.reduceSub, Nat.reduceMul, Nat.reduceLT, Nat.reduceLeDiff, Nat.reduceBEq, Nat.reduceEqDiff]
      rfl
    · rintro k H1 g ⟨rfl, hk, ht⟩
      have e2 : wr (k + 1) = k + 1 := wrap_id (by omega)
      simp (config := { maxSteps := 4000000 }) only [↓sx0, ↓sx1, ↓sx2, ↓sx3, ↓sx4, ↓sx5, ↓sx6, sx0, sx1, sx2, sx3, sx4, sx5, sx6, tf23, ev3_hold, sxo, sxc, sxp, sxq, sxr, sxs, sxl, sxm, Int.reduceBEq, Int.reduceBNe, Int.reduceLT, Int.reduceLE, Int.reduceEq, Int.reduceGT, Int.reduceGE, Int.reduceToNat, ↓reduceIte, List.reduceReplicate, Nat.reduceAdd, Nat.reduceSub, Nat.reduceMul, Nat.reduceLT, Nat.reduceLeDiff, Nat.reduceBEq, Nat.reduceEqDiff, e2]
      refine ⟨fun h1 => ?_, fun h1 => ?_⟩
      · have hkl : k < l.length := by omega
        have hkm : k < m.length := by omega
        refine at_1 (hr _) i1_len (List.getElem?_eq_getElem hkl) rfl fun ad => ?_
        simp (config := { maxSteps := 4000000 }) only [↓sx0, ↓sx1, ↓sx2, ↓sx3, ↓sx4, ↓sx5, ↓sx6, sx0, sx1, sx2, sx3, sx4, sx5, sx6, tf23, ev3_hold, sxo, sxc, sxp, sxq, sxr, sxs, sxl, sxm, Int.reduceBEq, Int.reduceBNe, Int.reduceLT, Int.reduceLE, Int.reduceEq, Int.reduceGT, Int.reduceGE, Int.reduceToNat, ↓reduceIte, List.reduceReplicate, Nat.reduceAdd, Nat.reduceSub, Nat.reduceMul, Nat.reduceLT, Nat.reduceLeDiff, Nat.reduceBEq, Nat.reduceEqDiff, e2]
        refine at_1 (hr' _) i1_len (List.getElem?_eq_getElem hkm) rfl fun ad' => ?_
        rw [List.drop_eq_getElem_cons hkl, List.drop_eq_getElem_cons hkm, List.cons.injEq] at ht
        simp (config := { maxSteps := 4000000 }) only [↓sx0, ↓sx1, ↓sx2, ↓sx3, ↓sx4, ↓sx5, ↓sx6, sx0, sx1, sx2, sx3, sx4, sx5, sx6, tf23, ev3_hold, sxo, sxc, sxp, sxq, sxr, sxs, sxl, sxm, Int.reduceBEq, Int.reduceBNe, Int.reduceLT, Int.reduceLE, Int.reduceEq, Int.reduceGT, Int.reduceGE, Int.reduceToNat, ↓reduceIte, List.reduceReplicate, Nat.reduceAdd, Nat.reduceSub, Nat.reduceMul, Nat.reduceLT, Nat.reduceLeDiff, Nat.reduceBEq, Nat.reduceEqDiff, e2]
        refine ⟨fun h2 => ?_, fun h2 => ⟨k + 1, _, rfl, HImp.refl _ _, ⟨rfl, by omega, ?_⟩, by omega⟩⟩
        · have : ¬ l = m := fun h => h2 (ht.1 h).1
          simp [this]
        · rw [ht]
          exact ⟨fun h => h.2, fun h => ⟨h2, h⟩⟩
      · have : l = m := by rw [ht, List.drop_of_length_le (by omega), List.drop_of_length_le (by omega)]
        simp [this]
  · simp (config := { maxSteps := 4000000 }) only [↓sx0, ↓sx1, ↓sx2, ↓sx3, ↓sx4, ↓sx5, ↓sx6, sx0, sx1, sx2, sx3, sx4, sx5, sx6, tf23, ev3_hold, sxo, sxc, sxp, sxq, sxr, sxs, sxl, sxm, Int.reduceBEq, Int.reduceBNe, Int.reduceLT, Int.reduceLE, Int.reduceEq, Int.reduceGT, Int.reduceGE, Int.reduceToNat, ↓reduceIte, List.reduceReplicate, Nat.reduceAdd, Nat.reduceSub, Nat.reduceMul, Nat.reduceLT, Nat.reduceLeDiff, Nat.reduceBEq, Nat.reduceEqDiff]
    refine ⟨fun _ => ?_, fun h1 => absurd (by omega) hl⟩
    have : l ≠ m := fun h => hl (by rw [← hn, ← hn', h])
    simp [this]
theorem example5_fn (w : World) : SX.Fn Tryd.prog 43 [] w (fun _ => False) fun r N => r = .tuple #[.agg #[I 20, I 5, I 4, I 1, I 10, I 6, I 1000], .agg #[I 5, I 1, I 0, I 200, I 5]] := by
  refine walk [] [] (det0_ok _ _) Tryd.func43 rfl Tryd.ntmps43 res43 (by kernel_rfl) no_facts ?_
  simp (config := { maxSteps := 4000000 }) only [↓sx0, ↓sx1, ↓sx2, ↓sx3, ↓sx4, ↓sx5, ↓sx6, sx0, sx1, sx2, sx3, sx4, sx5, sx6, tf43, ev3_hold, sxo, sxc, sxp, sxq, sxr, sxs, sxl, sxm, Int.reduceBEq, Int.reduceBNe, Int.reduceLT, Int.reduceLE, Int.reduceEq, Int.reduceGT, Int.reduceGE, Int.reduceToNat, ↓reduceIte, List.reduceReplicate, Nat.reduceAdd, Nat.reduceSub, Nat.reduceMul, Nat.reduceLT, Nat.reduceLeDiff, Nat.reduceBEq, Nat.reduceEqDiff]
theorem works5_fn (w : World) (hw : Ways w) : SX.Fn Tryd.prog 15 [] w (fun _ => False) fun r N => r = .bool true := by
  have dn : ∀ (g : Nat) (xs : List Value), det0 g xs = none := fun _ _ => rfl
  refine walk [] [] (det0_ok _ _) Tryd.func15 rfl Tryd.ntmps15 res15 (by kernel_rfl) no_facts ?_
  simp (config := { maxSteps := 4000000 }) only [↓sx0, ↓sx1, ↓sx2, ↓sx3, ↓sx4, ↓sx5, ↓sx6, sx0, sx1, sx2, sx3, sx4, sx5, sx6, tf15, ev3_hold, sxo, sxc, sxp, sxq, sxr, sxs, sxl, sxm, Int.reduceBEq, Int.reduceBNe, Int.reduceLT, Int.reduceLE, Int.reduceEq, Int.reduceGT, Int.reduceGE, Int.reduceToNat, ↓reduceIte, List.reduceReplicate, Nat.reduceAdd, Nat.reduceSub, Nat.reduceMul, Nat.reduceLT, Nat.reduceLeDiff, Nat.reduceBEq, Nat.reduceEqDiff, dn]
  refine CallOb.pureH (fun w' hp => example5_fn w') ?_
  rintro r N rfl
  refine ⟨?_⟩
  simp (config := { maxSteps := 4000000 }) only [↓sx0, ↓sx1, ↓sx2, ↓sx3, ↓sx4, ↓sx5, ↓sx6, sx0, sx1, sx2, sx3, sx4, sx5, sx6, tf15, ev3_hold, sxo, sxc, sxp, sxq, sxr, sxs, sxl, sxm, Int.reduceBEq, Int.reduceBNe, Int.reduceLT, Int.reduceLE, Int.reduceEq, Int.reduceGT, Int.reduceGE, Int.reduceToNat, ↓reduceIte, List.reduceReplicate, Nat.reduceAdd, Nat.reduceSub, Nat.reduceMul, Nat.reduceLT, Nat.reduceLeDiff, Nat.reduceBEq, Nat.reduceEqDiff, dn]
  refine CallOb.pureH (fun w' hp => example_fn w') ?_
  rintro r N2 ⟨b1, b2, b3, rfl, h1, h2, h3⟩
  have hch : ∀ (H : List HO) w', Hp ⟨w, fun _ => False⟩ H w' → (∀ h ∈ N2, h ∈ H) → ChOk w' (.agg #[I 4, I 3, .slice (some ⟨b1, 0, none⟩) 12 12, .slice (some ⟨b2, 0, none⟩) 5 5, .slice (some ⟨b3, 0, none⟩) 5 5]) exC := fun H w' hp hm => ⟨_, _, _, rfl, row_hp (hm _ h1) hp, row_hp (hm _ h2) hp, row_hp (hm _ h3) hp⟩
  refine ⟨?_⟩
  simp (config := { maxSteps := 4000000 }) only [↓sx0, ↓sx1, ↓sx2, ↓sx3, ↓sx4, ↓sx5, ↓sx6, sx0, sx1, sx2, sx3, sx4, sx5, sx6, tf15, ev3_hold, sxo, sxc, sxp, sxq, sxr, sxs, sxl, sxm, Int.reduceBEq, Int.reduceBNe, Int.reduceLT, Int.reduceLE, Int.reduceEq, Int.reduceGT, Int.reduceGE, Int.reduceToNat, ↓reduceIte, List.reduceReplicate, Nat.reduceAdd, Nat.reduceSub, Nat.reduceMul, Nat.reduceLT, Nat.reduceLeDiff, Nat.reduceBEq, Nat.reduceEqDiff, dn]
  refine CallOb.pureH (fun w' hp => go5_fn w' (hw.hp hp) _ exC (hch _ w' hp (by simp +contextual)) exC_small exB exQ 0 19 10 1) ?_
  rintro r N3 hG
  have hG2 : ∃ x, r = .tuple #[I 0, .agg #[x, I 9], I 0] ∧ Got x 3 1 i1 [5, 10, 10, 5] N3 := by
    rcases hG with ⟨h, _⟩ | ⟨_, ⟨why, _, h⟩ | ⟨k1, k2, m, B, L, x, k3, k4, k5, k6, rfl, k7⟩⟩
    · exact absurd ex_go h
    · have := Vg.look_ans (g := exG) (rd := rdE) rdE_eq (by decide) ex_look (.inl h)
      subst this
      rcases h with ⟨h, _⟩ | ⟨_, ⟨h, _⟩ | ⟨_, ⟨h, _⟩ | ⟨h, _⟩⟩⟩ <;> omega
    · obtain ⟨rfl, rfl⟩ := ex_best k3
      have := ex_cells k4 k5
      subst this
      exact ⟨x, rfl, k7⟩
  obtain ⟨x, rfl, hx⟩ := hG2
  obtain ⟨ax, cx, rfl⟩ := hx.shape
  refine ⟨?_⟩
  simp (config := { maxSteps := 4000000 }) only [↓sx0, ↓sx1, ↓sx2, ↓sx3, ↓sx4, ↓sx5, ↓sx6, sx0, sx1, sx2, sx3, sx4, sx5, sx6, tf15, ev3_hold, sxo, sxc, sxp, sxq, sxr, sxs, sxl, sxm, Int.reduceBEq, Int.reduceBNe, Int.reduceLT, Int.reduceLE, Int.reduceEq, Int.reduceGT, Int.reduceGE, Int.reduceToNat, ↓reduceIte, List.reduceReplicate, Nat.reduceAdd, Nat.reduceSub, Nat.reduceMul, Nat.reduceLT, Nat.reduceLeDiff, Nat.reduceBEq, Nat.reduceEqDiff, dn]
  refine CallOb.pureH (fun w' hp => round5_fn w' (hw.hp hp) _ exC (hch _ w' hp (by simp +contextual)) exC_small exB exQ 0 25 0) ?_
  rintro r N4 hR
  have hR2 : ∃ x, r = .tuple #[x, I 0] ∧ Got x 3 1 i1 exW N4 := by
    rcases hR with ⟨h, _⟩ | ⟨_, x, ws, rfl, hgx, hwl, hws⟩
    · exact absurd ex_ro h
    · have : ws = exW := by
        refine List.ext_getElem? fun i => ?_
        by_cases hi : i < 12
        · rw [getD_at (show i < ws.length by rw [hwl]; exact hi) 0, getD_at (show i < exW.length from hi) 0, Vg.look_ans (g := Vg.of exC exB exQ 0 (i : Int) 0) (rd := rdE) rdE_eq (by show (0 : Nat) < 5; decide) (ex_round i hi) (hws i hi)]
        · rw [List.getElem?_eq_none (by rw [hwl]; exact Nat.le_of_not_lt hi), List.getElem?_eq_none (show exW.length ≤ i from Nat.le_of_not_lt hi)]
      subst this
      exact ⟨x, rfl, hgx⟩
  obtain ⟨x2, rfl, hx2⟩ := hR2
  refine ⟨?_⟩
  simp (config := { maxSteps := 4000000 }) only [↓sx0, ↓sx1, ↓sx2, ↓sx3, ↓sx4, ↓sx5, ↓sx6, sx0, sx1, sx2, sx3, sx4, sx5, sx6, tf15, ev3_hold, sxo, sxc, sxp, sxq, sxr, sxs, sxl, sxm, Int.reduceBEq, Int.reduceBNe, Int.reduceLT, Int.reduceLE, Int.reduceEq, Int.reduceGT, Int.reduceGE, Int.reduceToNat, ↓reduceIte, List.reduceReplicate, Nat.reduceAdd, Nat.reduceSub, Nat.reduceMul, Nat.reduceLT, Nat.reduceLeDiff, Nat.reduceBEq, Nat.reduceEqDiff, dn]
  intro b5
  refine CallOb.pureH (fun w' hp => same5_fn w' _ _ [5, 10, 10, 5] [5, 10, 10, 5] (hx.hp (by simp +contextual) hp) (row_hp (E := 3) (by exact List.mem_cons_self) hp) (by decide)) ?_
  rintro q N5 rfl
  rw [decide_eq_true rfl]
  refine ⟨?_⟩
  simp (config := { maxSteps := 4000000 }) only [↓sx0, ↓sx1, ↓sx2, ↓sx3, ↓sx4, ↓sx5, ↓sx6, sx0, sx1, sx2, sx3, sx4, sx5, sx6, tf15, ev3_hold, sxo, sxc, sxp, sxq, sxr, sxs, sxl, sxm, Int.reduceBEq, Int.reduceBNe, Int.reduceLT, Int.reduceLE, Int.reduceEq, Int.reduceGT, Int.reduceGE, Int.reduceToNat, ↓reduceIte, List.reduceReplicate, Nat.reduceAdd, Nat.reduceSub, Nat.reduceMul, Nat.reduceLT, Nat.reduceLeDiff, Nat.reduceBEq, Nat.reduceEqDiff, dn]
  intro b6
  refine CallOb.pureH (fun w' hp => same5_fn w' _ _ exW exW (hx2.hp (by simp +contextual) hp) (row_hp (E := 3) (by exact List.mem_cons_self) hp) (by decide)) ?_
  rintro q N6 rfl
  rw [decide_eq_true rfl]
  refine ⟨?_⟩
  simp (config := { maxSteps := 4000000 }) only [↓sx0, ↓sx1, ↓sx2, ↓sx3, ↓sx4, ↓sx5, ↓sx6, sx0, sx1, sx2, sx3, sx4, sx5, sx6, tf15, ev3_hold, sxo, sxc, sxp, sxq, sxr, sxs, sxl, sxm, Int.reduceBEq, Int.reduceBNe, Int.reduceLT, Int.reduceLE, Int.reduceEq, Int.reduceGT, Int.reduceGE, Int.reduceToNat, ↓reduceIte, List.reduceReplicate, Nat.reduceAdd, Nat.reduceSub, Nat.reduceMul, Nat.reduceLT, Nat.reduceLeDiff, Nat.reduceBEq, Nat.reduceEqDiff]
end Go.Proofs.YtcnlbnccbnapbaaDoor

namespace Go.Proofs.YtcnlbnccbnapbaaDoor
open Go.RowKit Go.SX
set_option maxRecDepth 10000
set_option maxHeartbeats 0
set_option linter.unusedSimpArgs false
set_option linter.unusedVariables false
noncomputable def rmpE (c : Cht) (b : Cls) (r : Rmp) : Int := if c.okB then (if clsB b then (if rampB c r then 0 else 11) else 50) else 10
theorem isCellB_eq {c : Cht} (hok : c.ok) (n : Int) : isCellB c.wide c.high n = inB n 0 ((c.depth.length : Int) - 1) := by
  obtain ⟨_, _, h1, h2, h3⟩ := hok.dims
  have h4 : (c.depth.length : Int) = c.wide * c.high := hok.2.2.1
  have h5 : c.depth.length ≤ 144 := by rw [h3]; exact Nat.le_trans (Nat.mul_le_mul h1.2 h2.2) (by decide)
  unfold isCellB
  rw [← h4, show wr (c.depth.length : Int) = (c.depth.length : Int) from wrap_id (by omega), show wr ((c.depth.length : Int) - 1) = (c.depth.length : Int) - 1 from wrap_id (by omega)]
theorem rramp_fn (w : World) (hw : Ways w) (v : Value) (c : Cht) (hc : ChOk w v c) (hsm : c.small) (b : Cls) (r : Rmp) :
    SX.Fn Tryd.prog 58 [v, clv b, rmv r] w (fun _ => False) fun q N => q = I (rmpE c b r) := by
  have hc0 := hc
  have hD := detO_ok (X := fun _ => False) hw hc (fun _ _ => id)
  have hck : detO v c 20 [v] = some (I (if c.okB then 0 else 10)) := (detM_check (v := v) hsm).2
  obtain ⟨sD, sT, sS, rfl, hsD, hsT, hsS⟩ := hc
  have dq := detO_eq (.agg #[I c.wide, I c.high, sD, sT, sS]) c
  have dn : (∀ xs, detO (.agg #[I c.wide, I c.high, sD, sT, sS]) c 92 xs = none) := fun _ => rfl
  have hir := fun (hok : c.ok) (H : List HO) w' (hp : Hp ⟨w, fun _ => False⟩ H w') => isRamp_fn w' (hw.hp hp) _ c r (hc0.hp hp) hok
  unfold clv rmv rmpE
  unfold rmv at hir
  refine walk [] [] hD Tryd.func58 rfl Tryd.ntmps58 res58 (by kernel_rfl) no_facts ?_
  cases hok : c.okB with
  | false =>
    rw [hok] at hck
    simp (config := { maxSteps := 4000000 }) only [↓sx0, ↓sx1, ↓sx2, ↓sx3, ↓sx4, ↓sx5, ↓sx6, sx0, sx1, sx2, sx3, sx4, sx5, sx6, tf58, ev3_hold, sxo, sxc, sxp, sxq, sxr, sxs, sxl, sxm, Int.reduceBEq, Int.reduceBNe, Int.reduceLT, Int.reduceLE, Int.reduceEq, Int.reduceGT, Int.reduceGE, Int.reduceToNat, ↓reduceIte, List.reduceReplicate, Nat.reduceAdd, Nat.reduceSub, Nat.reduceMul, Nat.reduceLT, Nat.reduceLeDiff, Nat.reduceBEq, Nat.reduceEqDiff, hck]
  | true =>
  rw [hok] at hck
  have hok' := (okB_iff c).1 hok
  cases hcl : clsB b with
  | false =>
    have hcl' : clsB ⟨b.draught, b.seas, b.move, b.idle, b.reserve, b.seats, b.moment⟩ = false := hcl
    simp (config := { maxSteps := 4000000 }) only [↓sx0, ↓sx1, ↓sx2, ↓sx3, ↓sx4, ↓sx5, ↓sx6, sx0, sx1, sx2, sx3, sx4, sx5, sx6, tf58, ev3_hold, sxo, sxc, sxp, sxq, sxr, sxs, sxl, sxm, Int.reduceBEq, Int.reduceBNe, Int.reduceLT, Int.reduceLE, Int.reduceEq, Int.reduceGT, Int.reduceGE, Int.reduceToNat, ↓reduceIte, List.reduceReplicate, Nat.reduceAdd, Nat.reduceSub, Nat.reduceMul, Nat.reduceLT, Nat.reduceLeDiff, Nat.reduceBEq, Nat.reduceEqDiff, hck, dq, hcl']
  | true =>
  have hcl' : clsB ⟨b.draught, b.seas, b.move, b.idle, b.reserve, b.seats, b.moment⟩ = true := hcl
  simp (config := { maxSteps := 4000000 }) only [↓sx0, ↓sx1, ↓sx2, ↓sx3, ↓sx4, ↓sx5, ↓sx6, sx0, sx1, sx2, sx3, sx4, sx5, sx6, tf58, ev3_hold, sxo, sxc, sxp, sxq, sxr, sxs, sxl, sxm, Int.reduceBEq, Int.reduceBNe, Int.reduceLT, Int.reduceLE, Int.reduceEq, Int.reduceGT, Int.reduceGE, Int.reduceToNat, ↓reduceIte, List.reduceReplicate, Nat.reduceAdd, Nat.reduceSub, Nat.reduceMul, Nat.reduceLT, Nat.reduceLeDiff, Nat.reduceBEq, Nat.reduceEqDiff, hck, dq, hcl', dn]
  refine CallOb.pureH (fun w' hp => hir hok' _ w' hp) ?_
  rintro q N rfl
  cases hr : rampB c r with
  | false =>
    refine ⟨?_⟩
    simp (config := { maxSteps := 4000000 }) only [↓sx0, ↓sx1, ↓sx2, ↓sx3, ↓sx4, ↓sx5, ↓sx6, sx0, sx1, sx2, sx3, sx4, sx5, sx6, tf58, ev3_hold, sxo, sxc, sxp, sxq, sxr, sxs, sxl, sxm, Int.reduceBEq, Int.reduceBNe, Int.reduceLT, Int.reduceLE, Int.reduceEq, Int.reduceGT, Int.reduceGE, Int.reduceToNat, ↓reduceIte, List.reduceReplicate, Nat.reduceAdd, Nat.reduceSub, Nat.reduceMul, Nat.reduceLT, Nat.reduceLeDiff, Nat.reduceBEq, Nat.reduceEqDiff]
  | true =>
    refine ⟨?_⟩
    simp (config := { maxSteps := 4000000 }) only [↓sx0, ↓sx1, ↓sx2, ↓sx3, ↓sx4, ↓sx5, ↓sx6, sx0, sx1, sx2, sx3, sx4, sx5, sx6, tf58, ev3_hold, sxo, sxc, sxp, sxq, sxr, sxs, sxl, sxm, Int.reduceBEq, Int.reduceBNe, Int.reduceLT, Int.reduceLE, Int.reduceEq, Int.reduceGT, Int.reduceGE, Int.reduceToNat, ↓reduceIte, List.reduceReplicate, Nat.reduceAdd, Nat.reduceSub, Nat.reduceMul, Nat.reduceLT, Nat.reduceLeDiff, Nat.reduceBEq, Nat.reduceEqDiff]
theorem task_fn (w : World) (hw : Ways w) (v : Value) (c : Cht) (hc : ChOk w v c) (hok : c.ok) (tc ts : Int) :
    SX.Fn Tryd.prog 61 [v, .agg #[I tc, I ts]] w (fun _ => False) fun q N => q = .bool (inB tc 0 ((c.depth.length : Int) - 1) && inB ts 0 8) := by
  have hD := detO_ok (X := fun _ => False) hw hc (fun _ _ => id)
  obtain ⟨sD, sT, sS, rfl, hsD, hsT, hsS⟩ := hc
  have dq := detO_eq (.agg #[I c.wide, I c.high, sD, sT, sS]) c
  have hci : detO (.agg #[I c.wide, I c.high, sD, sT, sS]) c 50 [.agg #[I c.wide, I c.high, sD, sT, sS], I tc] = some (.bool (isCellB c.wide c.high tc)) := rfl
  rw [isCellB_eq hok] at hci
  refine walk [] [] hD Tryd.func61 rfl Tryd.ntmps61 res61 (by kernel_rfl) no_facts ?_
  cases h1 : inB tc 0 ((c.depth.length : Int) - 1) with
  | false =>
    rw [h1] at hci
    simp (config := { maxSteps := 4000000 }) only [↓sx0, ↓sx1, ↓sx2, ↓sx3, ↓sx4, ↓sx5, ↓sx6, sx0, sx1, sx2, sx3, sx4, sx5, sx6, tf61, ev3_hold, sxo, sxc, sxp, sxq, sxr, sxs, sxl, sxm, Int.reduceBEq, Int.reduceBNe, Int.reduceLT, Int.reduceLE, Int.reduceEq, Int.reduceGT, Int.reduceGE, Int.reduceToNat, ↓reduceIte, List.reduceReplicate, Nat.reduceAdd, Nat.reduceSub, Nat.reduceMul, Nat.reduceLT, Nat.reduceLeDiff, Nat.reduceBEq, Nat.reduceEqDiff, hci]
  | true =>
    rw [h1] at hci
    simp (config := { maxSteps := 4000000 }) only [↓sx0, ↓sx1, ↓sx2, ↓sx3, ↓sx4, ↓sx5, ↓sx6, sx0, sx1, sx2, sx3, sx4, sx5, sx6, tf61, ev3_hold, sxo, sxc, sxp, sxq, sxr, sxs, sxl, sxm, Int.reduceBEq, Int.reduceBNe, Int.reduceLT, Int.reduceLE, Int.reduceEq, Int.reduceGT, Int.reduceGE, Int.reduceToNat, ↓reduceIte, List.reduceReplicate, Nat.reduceAdd, Nat.reduceSub, Nat.reduceMul, Nat.reduceLT, Nat.reduceLeDiff, Nat.reduceBEq, Nat.reduceEqDiff, hci, dq]
theorem rgo_fn (w : World) (hw : Ways w) (v : Value) (c : Cht) (hc : ChOk w v c) (hsm : c.small) (b : Cls) (r : Rmp) (t f tc ts : Int) :
    SX.Fn Tryd.prog 27 [v, clv b, rmv r, I t, I f, .agg #[I tc, I ts]] w (fun _ => False) fun q N => q = I (goE c b r t f tc ts) := by
  have hc0 := hc
  have hD := detO_ok (X := fun _ => False) hw hc (fun _ _ => id)
  have hra := fun (H : List HO) w' (hp : Hp ⟨w, fun _ => False⟩ H w') => rramp_fn w' (hw.hp hp) v c (hc0.hp hp) hsm b r
  have hta := fun (hok : c.ok) (H : List HO) w' (hp : Hp ⟨w, fun _ => False⟩ H w') => task_fn w' (hw.hp hp) v c (hc0.hp hp) hok tc ts
  obtain ⟨sD, sT, sS, rfl, hsD, hsT, hsS⟩ := hc
  obtain ⟨aT, nT, cT, rfl⟩ := hsT.shape
  have hnT := hsT.le spc_len (by omega)
  subst hnT
  have htl : c.tide.length ≤ 100 := hsm.2.1
  have dq := detO_eq (.agg #[I c.wide, I c.high, sD, .slice aT c.tide.length cT, sS]) c
  have hti : detO (.agg #[I c.wide, I c.high, sD, .slice aT c.tide.length cT, sS]) c 59 [.agg #[I c.wide, I c.high, sD, .slice aT c.tide.length cT, sS], I t] = some (.bool (inB t 0 (wr ((c.tide.length : Int) - 1)))) := rfl
  rw [show wr ((c.tide.length : Int) - 1) = (c.tide.length : Int) - 1 from wrap_id (by omega)] at hti
  have dn : (∀ xs, detO (.agg #[I c.wide, I c.high, sD, .slice aT c.tide.length cT, sS]) c 58 xs = none) ∧ (∀ xs, detO (.agg #[I c.wide, I c.high, sD, .slice aT c.tide.length cT, sS]) c 61 xs = none) := ⟨fun _ => rfl, fun _ => rfl⟩
  unfold clv rmv goE staE
  unfold clv rmv at hra
  refine walk [] [] hD Tryd.func27 rfl Tryd.ntmps27 res27 (by kernel_rfl) no_facts ?_
  simp (config := { maxSteps := 4000000 }) only [↓sx0, ↓sx1, ↓sx2, ↓sx3, ↓sx4, ↓sx5, ↓sx6, sx0, sx1, sx2, sx3, sx4, sx5, sx6, tf27, ev3_hold, sxo, sxc, sxp, sxq, sxr, sxs, sxl, sxm, Int.reduceBEq, Int.reduceBNe, Int.reduceLT, Int.reduceLE, Int.reduceEq, Int.reduceGT, Int.reduceGE, Int.reduceToNat, ↓reduceIte, List.reduceReplicate, Nat.reduceAdd, Nat.reduceSub, Nat.reduceMul, Nat.reduceLT, Nat.reduceLeDiff, Nat.reduceBEq, Nat.reduceEqDiff, dn]
  refine CallOb.pureH (fun w' hp => hra _ w' hp) ?_
  rintro q N rfl
  unfold rmpE
  cases hok : c.okB with
  | false =>
    refine ⟨?_⟩
    simp (config := { maxSteps := 4000000 }) only [↓sx0, ↓sx1, ↓sx2, ↓sx3, ↓sx4, ↓sx5, ↓sx6, sx0, sx1, sx2, sx3, sx4, sx5, sx6, tf27, ev3_hold, sxo, sxc, sxp, sxq, sxr, sxs, sxl, sxm, Int.reduceBEq, Int.reduceBNe, Int.reduceLT, Int.reduceLE, Int.reduceEq, Int.reduceGT, Int.reduceGE, Int.reduceToNat, ↓reduceIte, List.reduceReplicate, Nat.reduceAdd, Nat.reduceSub, Nat.reduceMul, Nat.reduceLT, Nat.reduceLeDiff, Nat.reduceBEq, Nat.reduceEqDiff]
  | true =>
  have hok' := (okB_iff c).1 hok
  cases hcl : clsB b with
  | false =>
    refine ⟨?_⟩
    simp (config := { maxSteps := 4000000 }) only [↓sx0, ↓sx1, ↓sx2, ↓sx3, ↓sx4, ↓sx5, ↓sx6, sx0, sx1, sx2, sx3, sx4, sx5, sx6, tf27, ev3_hold, sxo, sxc, sxp, sxq, sxr, sxs, sxl, sxm, Int.reduceBEq, Int.reduceBNe, Int.reduceLT, Int.reduceLE, Int.reduceEq, Int.reduceGT, Int.reduceGE, Int.reduceToNat, ↓reduceIte, List.reduceReplicate, Nat.reduceAdd, Nat.reduceSub, Nat.reduceMul, Nat.reduceLT, Nat.reduceLeDiff, Nat.reduceBEq, Nat.reduceEqDiff]
  | true =>
  cases hr : rampB c r with
  | false =>
    refine ⟨?_⟩
    simp (config := { maxSteps := 4000000 }) only [↓sx0, ↓sx1, ↓sx2, ↓sx3, ↓sx4, ↓sx5, ↓sx6, sx0, sx1, sx2, sx3, sx4, sx5, sx6, tf27, ev3_hold, sxo, sxc, sxp, sxq, sxr, sxs, sxl, sxm, Int.reduceBEq, Int.reduceBNe, Int.reduceLT, Int.reduceLE, Int.reduceEq, Int.reduceGT, Int.reduceGE, Int.reduceToNat, ↓reduceIte, List.reduceReplicate, Nat.reduceAdd, Nat.reduceSub, Nat.reduceMul, Nat.reduceLT, Nat.reduceLeDiff, Nat.reduceBEq, Nat.reduceEqDiff]
  | true =>
  cases h1 : inB t 0 ((c.tide.length : Int) - 1) with
  | false =>
    rw [h1] at hti
    refine ⟨?_⟩
    simp (config := { maxSteps := 4000000 }) only [↓sx0, ↓sx1, ↓sx2, ↓sx3, ↓sx4, ↓sx5, ↓sx6, sx0, sx1, sx2, sx3, sx4, sx5, sx6, tf27, ev3_hold, sxo, sxc, sxp, sxq, sxr, sxs, sxl, sxm, Int.reduceBEq, Int.reduceBNe, Int.reduceLT, Int.reduceLE, Int.reduceEq, Int.reduceGT, Int.reduceGE, Int.reduceToNat, ↓reduceIte, List.reduceReplicate, Nat.reduceAdd, Nat.reduceSub, Nat.reduceMul, Nat.reduceLT, Nat.reduceLeDiff, Nat.reduceBEq, Nat.reduceEqDiff, hti]
  | true =>
  rw [h1] at hti
  cases h2 : inB f 0 5000 with
  | false =>
    refine ⟨?_⟩
    simp (config := { maxSteps := 4000000 }) only [↓sx0, ↓sx1, ↓sx2, ↓sx3, ↓sx4, ↓sx5, ↓sx6, sx0, sx1, sx2, sx3, sx4, sx5, sx6, tf27, ev3_hold, sxo, sxc, sxp, sxq, sxr, sxs, sxl, sxm, Int.reduceBEq, Int.reduceBNe, Int.reduceLT, Int.reduceLE, Int.reduceEq, Int.reduceGT, Int.reduceGE, Int.reduceToNat, ↓reduceIte, List.reduceReplicate, Nat.reduceAdd, Nat.reduceSub, Nat.reduceMul, Nat.reduceLT, Nat.reduceLeDiff, Nat.reduceBEq, Nat.reduceEqDiff, hti, dq, h2]
  | true =>
  refine ⟨?_⟩
  simp (config := { maxSteps := 4000000 }) only [↓sx0, ↓sx1, ↓sx2, ↓sx3, ↓sx4, ↓sx5, ↓sx6, sx0, sx1, sx2, sx3, sx4, sx5, sx6, tf27, ev3_hold, sxo, sxc, sxp, sxq, sxr, sxs, sxl, sxm, Int.reduceBEq, Int.reduceBNe, Int.reduceLT, Int.reduceLE, Int.reduceEq, Int.reduceGT, Int.reduceGE, Int.reduceToNat, ↓reduceIte, List.reduceReplicate, Nat.reduceAdd, Nat.reduceSub, Nat.reduceMul, Nat.reduceLT, Nat.reduceLeDiff, Nat.reduceBEq, Nat.reduceEqDiff, hti, dq, h2, dn]
  refine CallOb.pureH (fun w' hp => hta hok' _ w' hp) ?_
  rintro q N2 rfl
  cases h3 : (inB tc 0 ((c.depth.length : Int) - 1) && inB ts 0 8) with
  | false =>
    refine ⟨?_⟩
    simp (config := { maxSteps := 4000000 }) only [↓sx0, ↓sx1, ↓sx2, ↓sx3, ↓sx4, ↓sx5, ↓sx6, sx0, sx1, sx2, sx3, sx4, sx5, sx6, tf27, ev3_hold, sxo, sxc, sxp, sxq, sxr, sxs, sxl, sxm, Int.reduceBEq, Int.reduceBNe, Int.reduceLT, Int.reduceLE, Int.reduceEq, Int.reduceGT, Int.reduceGE, Int.reduceToNat, ↓reduceIte, List.reduceReplicate, Nat.reduceAdd, Nat.reduceSub, Nat.reduceMul, Nat.reduceLT, Nat.reduceLeDiff, Nat.reduceBEq, Nat.reduceEqDiff]
  | true =>
    refine ⟨?_⟩
    simp (config := { maxSteps := 4000000 }) only [↓sx0, ↓sx1, ↓sx2, ↓sx3, ↓sx4, ↓sx5, ↓sx6, sx0, sx1, sx2, sx3, sx4, sx5, sx6, tf27, ev3_hold, sxo, sxc, sxp, sxq, sxr, sxs, sxl, sxm, Int.reduceBEq, Int.reduceBNe, Int.reduceLT, Int.reduceLE, Int.reduceEq, Int.reduceGT, Int.reduceGE, Int.reduceToNat, ↓reduceIte, List.reduceReplicate, Nat.reduceAdd, Nat.reduceSub, Nat.reduceMul, Nat.reduceLT, Nat.reduceLeDiff, Nat.reduceBEq, Nat.reduceEqDiff]
structure Ord5 where
  r : Rmp
  t : Int
  f : Int
  tc : Int
  ts : Int
def orv (o : Ord5) : Value := .agg #[I o.r.cell, I o.r.draught, I o.r.least, I o.r.most, I o.r.surf, I o.t, I o.f, I o.tc, I o.ts]
end Go.Proofs.YtcnlbnccbnapbaaDoor

