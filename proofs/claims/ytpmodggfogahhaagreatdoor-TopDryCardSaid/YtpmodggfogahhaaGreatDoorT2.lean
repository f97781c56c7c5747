/- Parts of a proof: the symbolic walk and what it shows of single functions. -/
import Derived.Test.YtpmodggfogahhaaGreatDoorT1
import Derived.Test.YtpmodggfogahhaaGreatDoorH5
import Derived.Test.YtpmodggfogahhaaGreatDoorC5
set_option linter.all false
namespace Go.Proofs.YtpmodggfogahhaaGreatDoor.Tw
open Go.RowKit Go.SX
set_option maxRecDepth 4000
set_option linter.unusedSimpArgs false
set_option linter.unusedVariables false
theorem mul_bd {a b A B : Int} (h1 : 0 ≤ a) (h2 : a ≤ A) (h3 : 0 ≤ b) (h4 : b ≤ B) : 0 ≤ a * b ∧ a * b ≤ A * B :=
  ⟨Int.mul_nonneg h1 h3, Int.mul_le_mul h2 h4 h3 (Int.le_trans h1 h2)⟩
structure Buoy where
  h : Int
  m : Int
  a : Int
  s : Int
  lo : Int
  hi : Int
  wt : Int
def Buoy.ok (b : Buoy) : Prop := 0 ≤ b.h ∧ b.h ≤ 2000 ∧ 0 ≤ b.m ∧ b.m ≤ 2000 ∧ 1 ≤ b.a ∧ b.a ≤ 500 ∧ 0 ≤ b.s ∧ b.s ≤ 2000 ∧ 1 ≤ b.lo ∧ b.lo ≤ b.hi ∧ b.hi ≤ 500 ∧ -2000 ≤ b.wt ∧ b.wt ≤ 2000
def Buoy.G (b : Buoy) (x : Int) : Int := b.h * (b.a - x) + b.m * x - b.a * (b.s + b.wt)
def Buoy.S (b : Buoy) (x : Int) : Int := x * (b.a - x)
theorem Buoy.bd {b : Buoy} (hb : b.ok) {x : Int} (h0 : 0 ≤ x) (h1 : x ≤ b.a) : -4000000 ≤ b.G x ∧ b.G x ≤ 4000000 ∧ 0 ≤ b.S x ∧ b.S x ≤ 250000 ∧ 0 ≤ b.h * (b.a - x) ∧ b.h * (b.a - x) ≤ 1000000 ∧ 0 ≤ b.m * x ∧ b.m * x ≤ 1000000 ∧ -1000000 ≤ b.a * (b.s + b.wt) ∧ b.a * (b.s + b.wt) ≤ 3000000 := by
  unfold Buoy.ok at hb
  have e1 := mul_bd (a := b.h) (b := b.a - x) (A := 2000) (B := 500) (by omega) (by omega) (by omega) (by omega)
  have e2 := mul_bd (a := b.m) (b := x) (A := 2000) (B := 500) (by omega) (by omega) (by omega) (by omega)
  have e3 := mul_bd (a := b.a) (b := b.s + b.wt + 2000) (A := 500) (B := 6000) (by omega) (by omega) (by omega) (by omega)
  have e4 := mul_bd (a := x) (b := b.a - x) (A := 500) (B := 500) (by omega) (by omega) (by omega) (by omega)
  have e5 : b.a * (b.s + b.wt + 2000) = b.a * (b.s + b.wt) + 2000 * b.a := by rw [Int.mul_add b.a (b.s + b.wt) 2000]; omega
  unfold Buoy.G Buoy.S
  omega
theorem wr_id {n : Int} (h : -9223372036854775808 ≤ n ∧ n ≤ 9223372036854775807) : wr n = n := wrap_id h
theorem gap_eq {b : Buoy} (hb : b.ok) {x : Int} (h0 : 0 ≤ x) (h1 : x ≤ b.a) : gapV b.h b.m b.a b.s b.wt x = b.G x := by
  have hd := Buoy.bd hb h0 h1
  unfold Buoy.ok at hb
  unfold gapV
  rw [wr_id (n := b.a - x) (by omega), wr_id (n := b.h * (b.a - x)) (by omega), wr_id (n := b.m * x) (by omega), wr_id (n := b.s + b.wt) (by omega), wr_id (n := b.a * (b.s + b.wt)) (by omega), wr_id (n := b.h * (b.a - x) + b.m * x) (by omega)]
  exact wr_id (by unfold Buoy.G at hd; omega)
theorem sag_eq {b : Buoy} (hb : b.ok) {x : Int} (h0 : 0 ≤ x) (h1 : x ≤ b.a) : sagV b.a x = b.S x := by
  have hd := Buoy.bd hb h0 h1
  unfold Buoy.ok at hb
  unfold sagV
  rw [wr_id (n := b.a - x) (by omega)]
  exact wr_id (by unfold Buoy.S at hd; omega)
theorem up_le {x g T : Int} (hg : 0 < g) (hx : 0 ≤ x) : (x + g - 1).tdiv g ≤ T ↔ x ≤ T * g := by
  rw [Int.tdiv_eq_ediv_of_nonneg (by omega)]
  constructor
  · intro h
    have := (Int.ediv_le_iff_le_mul hg).1 h
    omega
  · intro h
    exact (Int.ediv_le_iff_le_mul hg).2 (by omega)
def Buoy.bad (b : Buoy) (x : Int) : Prop := b.G x < 0 ∨ b.G x = 0 ∧ 0 < b.S x
theorem slack_spec {b : Buoy} (hb : b.ok) : ∀ (n k : Nat) (t : Int), (k : Int) + n = b.a + 1 → 1 ≤ t →
    ((∃ j : Nat, k ≤ j ∧ (j : Int) ≤ b.a ∧ b.bad j) ∧ slGo b.h b.m b.a b.s b.hi b.wt n k t = (0, 3)) ∨
    ((∀ j : Nat, k ≤ j → (j : Int) ≤ b.a → ¬ b.bad j) ∧ ∃ r, slGo b.h b.m b.a b.s b.hi b.wt n k t = (r, 0) ∧ t ≤ r ∧ ∀ T, r ≤ T ↔ t ≤ T ∧ ∀ j : Nat, k ≤ j → (j : Int) ≤ b.a → b.hi * b.S j ≤ b.G j * T)
  | 0, k, t, hk, ht => .inr ⟨fun j h1 h2 => by omega, t, rfl, Int.le_refl _, fun T => ⟨fun h => ⟨h, fun j h1 h2 => by omega⟩, fun h => h.1⟩⟩
  | n + 1, k, t, hk, ht => by
    have h1 : (k : Int) ≤ b.a := by omega
    have hd := Buoy.bd hb (x := k) (by omega) h1
    have hok := hb
    unfold Buoy.ok at hok
    have eg := gap_eq hb (x := k) (by omega) h1
    have es := sag_eq hb (x := k) (by omega) h1
    have hm := mul_bd (a := b.hi) (b := b.S k) (A := 500) (B := 250000) (by omega) (by omega) (by omega) (by omega)
    rw [slGo, eg, es]
    by_cases hbad : b.bad k
    · refine .inl ⟨⟨k, Nat.le_refl _, h1, hbad⟩, if_pos ?_⟩
      unfold Buoy.bad at hbad
      unfold slBad
      rcases hbad with h | ⟨h, h'⟩
      · simp [h]
      · simp [h, h']
    · have hnb : slBad (b.G k) (b.S k) = false := by
        unfold Buoy.bad at hbad
        unfold slBad
        simp only [Bool.or_eq_false_iff, Bool.and_eq_false_iff, decide_eq_false_iff_not]
        omega
      rw [if_neg (by rw [hnb]; simp)]
      have hG : 0 ≤ b.G k := by unfold Buoy.bad at hbad; omega
      -- the next tension
      have hnx : 1 ≤ slNext b.hi (b.G k) (b.S k) t ∧ t ≤ slNext b.hi (b.G k) (b.S k) t ∧ ∀ T, slNext b.hi (b.G k) (b.S k) t ≤ T ↔ t ≤ T ∧ b.hi * b.S k ≤ b.G k * T := by
        unfold slNext
        by_cases hS : b.S k > 0
        · have hg : 0 < b.G k := by unfold Buoy.bad at hbad; omega
          rw [if_pos hS, wr_id (n := b.hi * b.S k) (by omega)]
          have hu : upV (b.hi * b.S k) (b.G k) = (b.hi * b.S k + b.G k - 1).tdiv (b.G k) := by
            unfold upV
            rw [wr_id (n := b.hi * b.S k + b.G k) (by omega), wr_id (n := b.hi * b.S k + b.G k - 1) (by omega)]
            refine wr_id ?_
            rw [Int.tdiv_eq_ediv_of_nonneg (by omega)]
            have e1 := Int.ediv_nonneg (a := b.hi * b.S k + b.G k - 1) (b := b.G k) (by omega) (by omega)
            have e2 := Int.ediv_le_self (a := b.hi * b.S k + b.G k - 1) (b.G k) (by omega)
            omega
          rw [hu]
          refine ⟨by omega, by omega, fun T => ?_⟩
          rw [Int.max_le, up_le hg hm.1, Int.mul_comm (b.G k) T]
        · rw [if_neg hS]
          have hS0 : b.S k = 0 := by omega
          refine ⟨ht, Int.le_refl _, fun T => ⟨fun h => ⟨h, ?_⟩, fun h => h.1⟩⟩
          rw [hS0, Int.mul_zero]
          exact Int.mul_nonneg hG (by omega)
      rcases slack_spec hb n (k + 1) _ (by omega) hnx.1 with ⟨⟨j, hj1, hj2, hj3⟩, he⟩ | ⟨hgood, r, he, hr, hT⟩
      · exact .inl ⟨⟨j, by omega, hj2, hj3⟩, he⟩
      · refine .inr ⟨fun j h1 h2 => ?_, r, he, by omega, fun T => ?_⟩
        · by_cases hj : j = k
          · subst hj; exact hbad
          · exact hgood j (by omega) h2
        · rw [hT, hnx.2.2]
          constructor
          · rintro ⟨⟨a1, a2⟩, a3⟩
            refine ⟨a1, fun j h1 h2 => ?_⟩
            by_cases hj : j = k
            · subst hj; exact a2
            · exact a3 j (by omega) h2
          · rintro ⟨a1, a2⟩
            exact ⟨⟨a1, a2 k (Nat.le_refl _) h1⟩, fun j h1 h2 => a2 j (by omega) h2⟩
theorem gt_bd {b : Buoy} (hb : b.ok) {x T : Int} (h0 : 0 ≤ x) (h1 : x ≤ b.a) (hT : 0 ≤ T ∧ T ≤ 1073741824) : -8589934592000000 ≤ b.G x * T ∧ b.G x * T ≤ 8589934592000000 := by
  have hd := Buoy.bd hb h0 h1
  have e := mul_bd (a := b.G x + 4000000) (b := T) (A := 8000000) (B := 1073741824) (by omega) (by omega) hT.1 hT.2
  rw [Int.add_mul] at e
  omega
theorem carry_spec {b : Buoy} (hb : b.ok) {st : Int} (hs : 1 ≤ st ∧ st ≤ 1000000) : ∀ (n k : Nat) (t : Int), (k : Int) + n = b.a + 1 → 0 ≤ t →
    ((∃ j : Nat, k ≤ j ∧ (j : Int) ≤ b.a ∧ b.G j < 0) ∧ caGo b.h b.m b.a b.s b.wt st n k t = 0) ∨
    ((∀ j : Nat, k ≤ j → (j : Int) ≤ b.a → 0 ≤ b.G j) ∧ 0 ≤ caGo b.h b.m b.a b.s b.wt st n k t ∧ caGo b.h b.m b.a b.s b.wt st n k t ≤ t ∧
      ∀ w, 0 ≤ w → (w ≤ caGo b.h b.m b.a b.s b.wt st n k t ↔ w ≤ t ∧ ∀ j : Nat, k ≤ j → (j : Int) ≤ b.a → w * b.S j ≤ b.G j * st))
  | 0, k, t, hk, ht => .inr ⟨fun j h1 h2 => by omega, ht, Int.le_refl _, fun w _ => ⟨fun h => ⟨h, fun j h1 h2 => by omega⟩, fun h => h.1⟩⟩
  | n + 1, k, t, hk, ht => by
    have h1 : (k : Int) ≤ b.a := by omega
    have hd := Buoy.bd hb (x := k) (by omega) h1
    have eg := gap_eq hb (x := k) (by omega) h1
    have es := sag_eq hb (x := k) (by omega) h1
    have hgt := gt_bd hb (x := k) (T := st) (by omega) h1 (by omega)
    rw [caGo, eg, es]
    by_cases hG : b.G k < 0
    · exact .inl ⟨⟨k, Nat.le_refl _, h1, hG⟩, if_pos hG⟩
    · rw [if_neg hG]
      have hG0 : 0 ≤ b.G k := by omega
      have hp : 0 ≤ b.G k * st := Int.mul_nonneg hG0 (by omega)
      have hnx : 0 ≤ caNext st (b.G k) (b.S k) t ∧ caNext st (b.G k) (b.S k) t ≤ t ∧ ∀ w, 0 ≤ w → (w ≤ caNext st (b.G k) (b.S k) t ↔ w ≤ t ∧ w * b.S k ≤ b.G k * st) := by
        unfold caNext
        by_cases hS : b.S k > 0
        · rw [if_pos hS, Int.mul_comm st, wr_id (n := b.G k * st) (by omega), Int.tdiv_eq_ediv_of_nonneg hp]
          have e1 := Int.ediv_nonneg (a := b.G k * st) (b := b.S k) hp (by omega)
          have e2 := Int.ediv_le_self (a := b.G k * st) (b.S k) hp
          rw [wr_id (n := b.G k * st / b.S k) (by omega)]
          refine ⟨by omega, by omega, fun w hw => ?_⟩
          rw [Int.le_min, Int.le_ediv_iff_mul_le hS]
        · rw [if_neg hS]
          have hS0 : b.S k = 0 := by omega
          refine ⟨ht, Int.le_refl _, fun w hw => ⟨fun h => ⟨h, ?_⟩, fun h => h.1⟩⟩
          rw [hS0, Int.mul_zero]
          exact hp
      rcases carry_spec hb hs n (k + 1) _ (by omega) hnx.1 with ⟨⟨j, hj1, hj2, hj3⟩, he⟩ | ⟨hgood, h0, hle, hT⟩
      · exact .inl ⟨⟨j, by omega, hj2, hj3⟩, he⟩
      · refine .inr ⟨fun j h2 h3 => ?_, h0, by omega, fun w hw => ?_⟩
        · by_cases hj : j = k
          · subst hj; exact hG0
          · exact hgood j (by omega) h3
        · rw [hT w hw, hnx.2.2 w hw]
          constructor
          · rintro ⟨⟨a1, a2⟩, a3⟩
            refine ⟨a1, fun j h2 h3 => ?_⟩
            by_cases hj : j = k
            · subst hj; exact a2
            · exact a3 j (by omega) h3
          · rintro ⟨a1, a2⟩
            exact ⟨⟨a1, a2 k (Nat.le_refl _) h1⟩, fun j h2 h3 => a2 j (by omega) h3⟩
theorem bad_dry {b : Buoy} {w T : Int} (hw : 1 ≤ w) (hT : 1 ≤ T) {x : Int} (h : b.bad x) (hS : 0 ≤ b.S x) : ¬ w * b.S x ≤ b.G x * T := by
  have e := Int.mul_nonneg (a := w) (b := b.S x) (by omega) hS
  rcases h with h | ⟨h, h'⟩
  · have : b.G x * T < 0 := Int.mul_neg_of_neg_of_pos h (by omega)
    omega
  · rw [h, Int.zero_mul]
    have := Int.mul_pos (a := w) (b := b.S x) (by omega) h'
    omega
theorem neg_dry {b : Buoy} {w T : Int} (hw : 0 ≤ w) (hT : 1 ≤ T) {x : Int} (h : b.G x < 0) (hS : 0 ≤ b.S x) : ¬ w * b.S x ≤ b.G x * T := by
  have e := Int.mul_nonneg (a := w) (b := b.S x) hw hS
  have : b.G x * T < 0 := Int.mul_neg_of_neg_of_pos h (by omega)
  omega
theorem ok_of_check {h m a s lo hi wt : Int} (hc : checkV h m a s lo hi wt = 0) : Buoy.ok ⟨h, m, a, s, lo, hi, wt⟩ := by
  have := check_zero hc
  simp only [isBuoyB, inB, Bool.and_eq_true, decide_eq_true_eq] at this
  simp only [Buoy.ok]
  omega
theorem slack_told {b : Buoy} (hb : b.ok) (hc : checkV b.h b.m b.a b.s b.lo b.hi b.wt = 0) :
    (slackR b.h b.m b.a b.s b.lo b.hi b.wt = (0, 3) ∧ ∃ j : Nat, (j : Int) ≤ b.a ∧ b.bad j) ∨
    ∃ n, slackR b.h b.m b.a b.s b.lo b.hi b.wt = (n, 0) ∧ 1 ≤ n ∧ n ≤ 125000000 ∧ ∀ T, n ≤ T ↔ 1 ≤ T ∧ ∀ j : Nat, (j : Int) ≤ b.a → b.hi * b.S j ≤ b.G j * T := by
  have hok := hb
  unfold Buoy.ok at hok
  rw [slackR, if_pos hc]
  rcases slack_spec hb (b.a + 1).toNat 0 1 (by omega) (by omega) with ⟨⟨j, _, h1, h2⟩, he⟩ | ⟨hgood, r, he, hr, hT⟩
  · exact .inl ⟨he, j, h1, h2⟩
  · have hT' : ∀ T, r ≤ T ↔ 1 ≤ T ∧ ∀ j : Nat, (j : Int) ≤ b.a → b.hi * b.S j ≤ b.G j * T := fun T => (hT T).trans ⟨fun h => ⟨h.1, fun j hj => h.2 j (Nat.zero_le _) hj⟩, fun h => ⟨h.1, fun j _ hj => h.2 j hj⟩⟩
    refine .inr ⟨r, he, hr, (hT' _).2 ⟨by omega, fun j hj => ?_⟩, hT'⟩
    have hd := Buoy.bd hb (x := j) (by omega) hj
    have hg := hgood j (Nat.zero_le _) hj
    have hm := mul_bd (a := b.hi) (b := b.S j) (A := 500) (B := 250000) (by omega) (by omega) (by omega) (by omega)
    unfold Buoy.bad at hg
    by_cases hS : 0 < b.S j
    · have : 1 * 125000000 ≤ b.G j * 125000000 := Int.mul_le_mul_of_nonneg_right (by omega) (by omega)
      omega
    · have hS0 : b.S j = 0 := by omega
      rw [hS0, Int.mul_zero]
      exact Int.mul_nonneg (by omega) (by omega)
theorem carry_told {b : Buoy} (hb : b.ok) {st : Int} (hs : 1 ≤ st ∧ st ≤ 1000000) (hc : carryV b.h b.m b.a b.s b.lo b.hi b.wt st = 0) :
    ∃ c, carryR b.h b.m b.a b.s b.lo b.hi b.wt st = (c, 0) ∧ 0 ≤ c ∧ c ≤ 500 ∧ ∀ w, 1 ≤ w → w ≤ 500 → (w ≤ c ↔ ∀ j : Nat, (j : Int) ≤ b.a → w * b.S j ≤ b.G j * st) := by
  have hok := hb
  unfold Buoy.ok at hok
  rw [carryR, if_pos hc]
  rcases carry_spec hb hs (b.a + 1).toNat 0 500 (by omega) (by omega) with ⟨⟨j, _, hj2, hj3⟩, he⟩ | ⟨hgood, h0, hle, hT⟩
  · refine ⟨_, rfl, by omega, by omega, fun w h1 h5 => ?_⟩
    rw [he]
    refine ⟨fun h => by omega, fun h => ?_⟩
    have hd := Buoy.bd hb (x := j) (by omega) hj2
    exact absurd (h j hj2) (neg_dry (by omega) hs.1 hj3 (by omega))
  · refine ⟨_, rfl, h0, hle, fun w h1 h5 => ?_⟩
    rw [hT w (by omega)]
    exact ⟨fun h j hj => h.2 j (Nat.zero_le _) hj, fun h => ⟨h5, fun j _ hj => h j hj⟩⟩
end Go.Proofs.YtpmodggfogahhaaGreatDoor.Tw

namespace Go.Proofs.YtpmodggfogahhaaGreatDoor
open Go.RowKit Go.SX
set_option maxRecDepth 20000
set_option maxHeartbeats 0
set_option linter.unusedSimpArgs false
set_option linter.unusedVariables false
theorem rfrom9_fn (w : World) (n l h : Int) : SX.Fn Tryz.prog 68 [I n, I l, I h] w (fun _ => False) fun q N => q = .bool (Tw.inB n l h) := by
  unfold Tw.inB
  by_cases h1 : l ≤ n
  · have e1 : (n ≥ l) = True := eq_true h1
    refine walk [] [] (det0_ok _ _) Tryz.func68 rfl Tryz.ntmps68 res68 (by kernel_rfl) no_facts ?_
    simp (config := { maxSteps := 4000000 }) only [↓sx0, ↓sx1, ↓sx2, ↓sx3, ↓sx4, ↓sx5, ↓sx6, sx0, sx1, sx2, sx3, sx4, sx5, sx6, tf68, ev3_hold, sxo, sxc, sxp, sxq, sxr, sxs, sxl, sxm, Int.reduceBEq, Int.reduceBNe, Int.reduceLT, Int.reduceLE, Int.reduceEq, Int.reduceGT, Int.reduceGE, Int.reduceToNat, ↓reduceIte, List.reduceReplicate, Nat.reduceAdd, Nat.reduceSub, Nat.reduceMul, Nat.reduceLT, Nat.reduceLeDiff, Nat.reduceBEq, Nat.reduceEqDiff, e1]
    try simp
  · have e1 : (n ≥ l) = False := eq_false h1
    refine walk [] [] (det0_ok _ _) Tryz.func68 rfl Tryz.ntmps68 res68 (by kernel_rfl) no_facts ?_
    simp (config := { maxSteps := 4000000 }) only [↓sx0, ↓sx1, ↓sx2, ↓sx3, ↓sx4, ↓sx5, ↓sx6, sx0, sx1, sx2, sx3, sx4, sx5, sx6, tf68, ev3_hold, sxo, sxc, sxp, sxq, sxr, sxs, sxl, sxm, Int.reduceBEq, Int.reduceBNe, Int.reduceLT, Int.reduceLE, Int.reduceEq, Int.reduceGT, Int.reduceGE, Int.reduceToNat, ↓reduceIte, List.reduceReplicate, Nat.reduceAdd, Nat.reduceSub, Nat.reduceMul, Nat.reduceLT, Nat.reduceLeDiff, Nat.reduceBEq, Nat.reduceEqDiff, e1]
    try simp
def detH : Nat → List Value → Option Value
  | 68, [.int .i64 n, .int .i64 l, .int .i64 h] => some (.bool (Tw.inB n l h))
  | _, _ => none
theorem detH_ok (w0 : World) (X : Nat → Prop) : DetFn Tryz.prog ⟨w0, X⟩ detH := by
  intro g args v h w hk
  unfold detH at h
  split at h
  · cases h
    exact Tw.det_of_fn' (rfrom9_fn w _ _ _)
  · cases h
theorem detH_eq : ∀ n l h : Int, detH 68 [I n, I l, I h] = some (.bool (Tw.inB n l h)) := fun _ _ _ => rfl
theorem risBuoy_fn (w : World) (h m a s lo hi : Int) : SX.Fn Tryz.prog 24 [.agg #[I h, I m, I a, I s, I lo, I hi]] w (fun _ => False) fun q N => q = .bool (Tw.isBuoyB h m a s lo hi) := by
  refine walk [] [] (detH_ok _ _) Tryz.func24 rfl Tryz.ntmps24 res24 (by kernel_rfl) no_facts ?_
  simp (config := { maxSteps := 4000000 }) only [↓sx0, ↓sx1, ↓sx2, ↓sx3, ↓sx4, ↓sx5, ↓sx6, sx0, sx1, sx2, sx3, sx4, sx5, sx6, tf24, ev3_hold, sxo, sxc, sxp, sxq, sxr, sxs, sxl, sxm, Int.reduceBEq, Int.reduceBNe, Int.reduceLT, Int.reduceLE, Int.reduceEq, Int.reduceGT, Int.reduceGE, Int.reduceToNat, ↓reduceIte, List.reduceReplicate, Nat.reduceAdd, Nat.reduceSub, Nat.reduceMul, Nat.reduceLT, Nat.reduceLeDiff, Nat.reduceBEq, Nat.reduceEqDiff, detH_eq]
  unfold Tw.isBuoyB
  simp +contextual
end Go.Proofs.YtpmodggfogahhaaGreatDoor

namespace Go.Proofs.YtpmodggfogahhaaGreatDoor
open Go.RowKit Go.SX Go.ChangeShapes Go.WideShapes Go.ChangeAt
set_option maxRecDepth 100000
theorem flat_buoy : flat Tryz.prog 4 62 = some [.int .i64, .int .i64, .int .i64, .int .i64, .int .i64, .int .i64] := by kernel_rfl
theorem leaves6 {P : Program} {w : World} {vs : List Value} (h : Lvs P w [.int .i64, .int .i64, .int .i64, .int .i64, .int .i64, .int .i64] vs) : ∃ a b c d e f, vs = [I a, I b, I c, I d, I e, I f] := by
  cases h with | int _ h => cases h with | int _ h => cases h with | int _ h => cases h with | int _ h => cases h with | int _ h => cases h with | int _ h => cases h with | nil => exact ⟨_, _, _, _, _, _, rfl⟩
theorem buoy_of {H : Type} {enc : TypeId × Value → H} {w : World} {base : Nat} {v : Value} {d : DataW H} {ps : List MemPlace} (h : Value.okWide Tryz.prog w .any base 62 v) (hd : DataW.Trod enc Tryz.prog w 0 (fun _ => true) true 62 v d ps) : ∃ a b c d e f, v = .agg #[I a, I b, I c, I d, I e, I f] := by
  obtain ⟨cs, rfl⟩ := agg_of Tryz.underlying62 h
  obtain ⟨a, b, c, d, e, f, hl⟩ := leaves6 (lvs_of_Trod hd 4 flat_buoy)
  exact ⟨a, b, c, d, e, f, by rw [show cs = cs.toList.toArray by simp, show cs.toList = _ from hl]⟩
end Go.Proofs.YtpmodggfogahhaaGreatDoor

