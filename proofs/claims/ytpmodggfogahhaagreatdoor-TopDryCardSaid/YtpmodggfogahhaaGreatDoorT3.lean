/- Parts of a proof: the symbolic walk and what it shows of single functions. -/
import Derived.Test.YtpmodggfogahhaaGreatDoorT2
set_option linter.all false
namespace Go.Proofs.YtpmodggfogahhaaGreatDoor.Tw
open Go.RowKit Go.SX
set_option maxRecDepth 4000
set_option maxHeartbeats 4000000
set_option linter.unusedSimpArgs false
set_option linter.unusedVariables false
def roomW (h m a s x y : Int) : Int := wr (wr (wr (h * wr (a - y)) + wr (m * y)) - wr (wr (s + x) * a))
theorem room_fn (w : World) (h m a s b c x y : Int) : SX.Fn Tryz.prog 73 [.agg #[I h, I m, I a, I s, I b, I c], I x, I y] w (fun _ => False) fun v N => v = I (roomW h m a s x y) ∧ N = [] := by
  refine walk [] [] (det0_ok _ _) Tryz.func73 rfl Tryz.ntmps73 res73 (by kernel_rfl) no_facts ?_
  simp (config := { maxSteps := 4000000 }) only [↓sx0, ↓sx1, ↓sx2, ↓sx3, ↓sx4, ↓sx5, ↓sx6, sx0, sx1, sx2, sx3, sx4, sx5, sx6, tf73, ev3_hold, sxo, sxc, sxp, sxq, sxr, sxs, sxl, sxm, Int.reduceBEq, Int.reduceBNe, Int.reduceLT, Int.reduceLE, Int.reduceEq, Int.reduceGT, Int.reduceGE, Int.reduceToNat, ↓reduceIte, List.reduceReplicate, Nat.reduceAdd, Nat.reduceSub, Nat.reduceMul, Nat.reduceLT, Nat.reduceLeDiff, Nat.reduceBEq, Nat.reduceEqDiff]
  rfl
def detQ : Nat → List Value → Option Value
  | 73, [.agg ⟨[.int .i64 h, .int .i64 m, .int .i64 a, .int .i64 s, .int .i64 _, .int .i64 _]⟩, .int .i64 x, .int .i64 y] => some (I (roomW h m a s x y))
  | _, _ => none
theorem detQ_ok (w0 : World) (X : Nat → Prop) : DetFn Tryz.prog ⟨w0, X⟩ detQ := by
  intro g args v h w hk
  unfold detQ at h
  split at h
  · cases h
    exact det_of_fn (room_fn w _ _ _ _ _ _ _ _)
  · cases h
theorem detQ_eq : ∀ h m a s b c x y : Int, detQ 73 [.agg #[I h, I m, I a, I s, I b, I c], I x, I y] = some (I (roomW h m a s x y)) := fun _ _ _ _ _ _ _ _ => rfl
def dryGo (h m a s wt wg tn : Int) : Nat → Nat → Bool
  | 0, _ => true
  | n + 1, k => if wr (roomW h m a s wt k * tn) < wr (wr (wg * k) * wr (a - k)) then false else dryGo h m a s wt wg tn n (k + 1)
theorem dry_fn (w : World) (h m a s lo hi wt wg tn : Int) (ha : 0 ≤ a ∧ a ≤ 1000000) : SX.Fn Tryz.prog 30 [.agg #[I h, I m, I a, I s, I lo, I hi], I wt, I wg, I tn] w (fun _ => False) fun v N => v = .bool (dryGo h m a s wt wg tn (a + 1).toNat 0) := by
  refine walk [] [(4, (ones [0, 1, 2, 4, 6, 7, 8, 9, 10, 11, 12, 13, 3, 5, 14] .fin))] (detQ_ok _ _) Tryz.func30 rfl Tryz.ntmps30 res30 (by kernel_rfl) no_facts ?_
  simp (config := { maxSteps := 4000000 }) only [↓sx0, ↓sx1, ↓sx2, ↓sx3, ↓sx4, ↓sx5, ↓sx6, sx0, sx1, sx2, sx3, sx4, sx5, sx6, tf30, ev3_hold, sxo, sxc, sxp, sxq, sxr, sxs, sxl, sxm, Int.reduceBEq, Int.reduceBNe, Int.reduceLT, Int.reduceLE, Int.reduceEq, Int.reduceGT, Int.reduceGE, Int.reduceToNat, ↓reduceIte, List.reduceReplicate, Nat.reduceAdd, Nat.reduceSub, Nat.reduceMul, Nat.reduceLT, Nat.reduceLeDiff, Nat.reduceBEq, Nat.reduceEqDiff, detQ_eq]
  refine loop_const [(10, 30)] (fun k : Nat => [(9, I k)]) (fun k H1 => H1 = [] ∧ k ≤ (a + 1).toNat ∧ dryGo h m a s wt wg tn (a + 1).toNat 0 = dryGo h m a s wt wg tn ((a + 1).toNat - k) k) (fun k => (a + 1).toNat - k) 0 ?_ ⟨rfl, Nat.zero_le _, rfl⟩ ?_
  · simp (config := { maxSteps := 4000000 }) only [↓sx0, ↓sx1, ↓sx2, ↓sx3, ↓sx4, ↓sx5, ↓sx6, sx0, sx1, sx2, sx3, sx4, sx5, sx6, tf30, ev3_hold, sxo, sxc, sxp, sxq, sxr, sxs, sxl, sxm, Int.reduceBEq, Int.reduceBNe, Int.reduceLT, Int.reduceLE, Int.reduceEq, Int.reduceGT, Int.reduceGE, Int.reduceToNat, ↓reduceIte, List.reduceReplicate, Nat.reduceAdd, Nat.reduceSub, Nat.reduceMul, Nat.reduceLT, Nat.reduceLeDiff, Nat.reduceBEq, Nat.reduceEqDiff]
    rfl
  · rintro k H1 g ⟨rfl, hk, ht⟩
    simp (config := { maxSteps := 4000000 }) only [↓sx0, ↓sx1, ↓sx2, ↓sx3, ↓sx4, ↓sx5, ↓sx6, sx0, sx1, sx2, sx3, sx4, sx5, sx6, tf30, ev3_hold, sxo, sxc, sxp, sxq, sxr, sxs, sxl, sxm, Int.reduceBEq, Int.reduceBNe, Int.reduceLT, Int.reduceLE, Int.reduceEq, Int.reduceGT, Int.reduceGE, Int.reduceToNat, ↓reduceIte, List.reduceReplicate, Nat.reduceAdd, Nat.reduceSub, Nat.reduceMul, Nat.reduceLT, Nat.reduceLeDiff, Nat.reduceBEq, Nat.reduceEqDiff, detQ_eq]
    refine ⟨fun h1 => ?_, fun h1 => ?_⟩
    · have hs : dryGo h m a s wt wg tn ((a + 1).toNat - k) k = if wr (roomW h m a s wt k * tn) < wr (wr (wg * k) * wr (a - k)) then false else dryGo h m a s wt wg tn ((a + 1).toNat - (k + 1)) (k + 1) := by
        rw [show (a + 1).toNat - k = ((a + 1).toNat - (k + 1)) + 1 by omega]
        rfl
      rw [hs] at ht
      have e2 : wr (k + 1) = k + 1 := wrap_id (by omega)
      refine ⟨fun h2 => ?_, fun h2 => ?_⟩
      · rw [ht, if_pos h2]
      · simp (config := { maxSteps := 4000000 }) only [↓sx0, ↓sx1, ↓sx2, ↓sx3, ↓sx4, ↓sx5, ↓sx6, sx0, sx1, sx2, sx3, sx4, sx5, sx6, tf30, ev3_hold, sxo, sxc, sxp, sxq, sxr, sxs, sxl, sxm, Int.reduceBEq, Int.reduceBNe, Int.reduceLT, Int.reduceLE, Int.reduceEq, Int.reduceGT, Int.reduceGE, Int.reduceToNat, ↓reduceIte, List.reduceReplicate, Nat.reduceAdd, Nat.reduceSub, Nat.reduceMul, Nat.reduceLT, Nat.reduceLeDiff, Nat.reduceBEq, Nat.reduceEqDiff, e2]
        refine ⟨k + 1, _, rfl, HImp.refl _ _, ⟨rfl, by omega, ?_⟩, by omega⟩
        rw [ht, if_neg h2]
    · rw [ht, show (a + 1).toNat - k = 0 by omega]
      rfl
theorem room_eq {b : Buoy} (hb : b.ok) {x : Int} (h0 : 0 ≤ x) (h1 : x ≤ b.a) : roomW b.h b.m b.a b.s b.wt x = b.G x := by
  have hd := Buoy.bd hb h0 h1
  rw [Int.mul_comm b.a (b.s + b.wt)] at hd
  have hg : b.G x = b.h * (b.a - x) + b.m * x - (b.s + b.wt) * b.a := by rw [Buoy.G, Int.mul_comm b.a]
  unfold Buoy.ok at hb
  unfold roomW
  rw [wr_id (n := b.a - x) (by omega), wr_id (n := b.h * (b.a - x)) (by omega), wr_id (n := b.m * x) (by omega), wr_id (n := b.s + b.wt) (by omega), wr_id (n := (b.s + b.wt) * b.a) (by omega), wr_id (n := b.h * (b.a - x) + b.m * x) (by omega), hg]
  exact wr_id (by omega)
theorem wsag_eq {b : Buoy} (hb : b.ok) {x g : Int} (h0 : 0 ≤ x) (h1 : x ≤ b.a) (hg : 0 ≤ g ∧ g ≤ 1000000) : wr (wr (g * x) * wr (b.a - x)) = g * b.S x := by
  have hd := Buoy.bd hb h0 h1
  have e1 := mul_bd (a := g) (b := x) (A := 1000000) (B := 500) (by omega) (by omega) (by omega) (by unfold Buoy.ok at hb; omega)
  have e2 := mul_bd (a := g) (b := b.S x) (A := 1000000) (B := 250000) (by omega) (by omega) (by omega) (by omega)
  unfold Buoy.ok at hb
  rw [wr_id (n := b.a - x) (by omega), wr_id (n := g * x) (by omega), Int.mul_assoc]
  exact wr_id (by unfold Buoy.S at e2; omega)
theorem dry_spec {b : Buoy} (hb : b.ok) {wg T : Int} (hw : 0 ≤ wg ∧ wg ≤ 1000000) (hT : 0 ≤ T ∧ T ≤ 1073741824) : ∀ (n k : Nat), (k : Int) + n = b.a + 1 →
    (dryGo b.h b.m b.a b.s b.wt wg T n k = true ↔ ∀ j : Nat, k ≤ j → (j : Int) ≤ b.a → wg * b.S j ≤ b.G j * T)
  | 0, k, hk => ⟨fun _ j h1 h2 => by omega, fun _ => rfl⟩
  | n + 1, k, hk => by
    have h1 : (k : Int) ≤ b.a := by omega
    have er := room_eq hb (x := k) (by omega) h1
    have ew := wsag_eq hb (x := k) (g := wg) (by omega) h1 hw
    have hg := gt_bd hb (x := k) (by omega) h1 hT
    rw [dryGo, er, ew, wr_id (n := b.G k * T) (by omega)]
    by_cases hc : b.G k * T < wg * b.S k
    · rw [if_pos hc]
      refine ⟨fun h => (by cases h), fun h => ?_⟩
      have := h k (Nat.le_refl _) h1
      omega
    · rw [if_neg hc, dry_spec hb hw hT n (k + 1) (by omega)]
      constructor
      · intro h j h2 h3
        by_cases hj : j = k
        · subst hj; omega
        · exact h j (by omega) h3
      · exact fun h j h2 h3 => h j (by omega) h3
theorem dry_all {b : Buoy} (hb : b.ok) {wg T : Int} (hw : 0 ≤ wg ∧ wg ≤ 1000000) (hT : 0 ≤ T ∧ T ≤ 1073741824) :
    dryGo b.h b.m b.a b.s b.wt wg T (b.a + 1).toNat 0 = true ↔ ∀ j : Nat, (j : Int) ≤ b.a → wg * b.S j ≤ b.G j * T := by
  have hok := hb
  unfold Buoy.ok at hok
  rw [dry_spec hb hw hT _ _ (by omega)]
  exact ⟨fun h j hj => h j (Nat.zero_le _) hj, fun h j _ hj => h j hj⟩
end Go.Proofs.YtpmodggfogahhaaGreatDoor.Tw

namespace Go.Proofs.YtpmodggfogahhaaGreatDoor
open Go.RowKit Go.SX Go.ChangeShapes Go.WideShapes Go.ChangeAt
set_option maxRecDepth 100000
theorem flat_wet : flat Tryz.prog 4 68 = some [.int .i64, .int .i64, .int .i64, .int .i64] := by kernel_rfl
theorem leaves4 {P : Program} {w : World} {vs : List Value} (h : Lvs P w [.int .i64, .int .i64, .int .i64, .int .i64] vs) : ∃ a b c d, vs = [I a, I b, I c, I d] := by
  cases h with | int _ h => cases h with | int _ h => cases h with | int _ h => cases h with | int _ h => cases h with | nil => exact ⟨_, _, _, _, rfl⟩
theorem wet_of {H : Type} {enc : TypeId × Value → H} {w : World} {base : Nat} {v : Value} {d : DataW H} {ps : List MemPlace} (h : Value.okWide Tryz.prog w .any base 68 v) (hd : DataW.Trod enc Tryz.prog w 0 (fun _ => true) true 68 v d ps) : ∃ a b c d, v = .agg #[I a, I b, I c, I d] := by
  obtain ⟨cs, rfl⟩ := agg_of Tryz.underlying68 h
  obtain ⟨a, b, c, d, hl⟩ := leaves4 (lvs_of_Trod hd 4 flat_wet)
  exact ⟨a, b, c, d, by rw [show cs = cs.toList.toArray by simp, show cs.toList = _ from hl]⟩
end Go.Proofs.YtpmodggfogahhaaGreatDoor

