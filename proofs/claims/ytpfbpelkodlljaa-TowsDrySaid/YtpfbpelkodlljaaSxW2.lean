/- A part of a proof: the symbolic walk and what it shows of single functions. -/
import Derived.Test.YtpfbpelkodlljaaSxW1
set_option linter.all false
namespace Go.Proofs.Ytpfbpelkodlljaa
open Go.RowKit Go.SX
set_option maxRecDepth 4000
set_option linter.unusedSimpArgs false
set_option linter.unusedVariables false

theorem gt_bd {b : Buoy} (hb : b.ok) {x T : Int} (h0 : 0 ≤ x) (h1 : x ≤ b.a) (hT : 0 ≤ T ∧ T ≤ 1073741824) : -8589934592000000 ≤ b.G x * T ∧ b.G x * T ≤ 8589934592000000 := by
  have hd := Buoy.bd hb h0 h1
  have e := mul_bd (a := b.G x + 4000000) (b := T) (A := 8000000) (B := 1073741824) (by omega) (by omega) hT.1 hT.2
  rw [Int.add_mul] at e
  omega

theorem dry_spec {b : Buoy} (hb : b.ok) {wg T : Int} (hw : 0 ≤ wg ∧ wg ≤ 1000000) (hT : 0 ≤ T ∧ T ≤ 1073741824) : ∀ (n k : Nat), (k : Int) + n = b.a + 1 →
    (dryGo b.h b.m b.a b.s b.wt wg T n k = true ↔ ∀ j : Nat, k ≤ j → (j : Int) ≤ b.a → wg * b.S j ≤ b.G j * T)
  | 0, k, hk => ⟨fun _ j h1 h2 => by omega, fun _ => rfl⟩
  | n + 1, k, hk => by
    have h1 : (k : Int) ≤ b.a := by omega
    have er := room_eq hb (x := k) (by omega) h1
    have ew := wsag_eq hb (x := k) (g := wg) (by omega) h1 hw
    have hg := gt_bd hb (x := k) (by omega) h1 hT
    rw [dryGo, er, ew, wr_id (n := b.G k * T) (by omega)]
    by_cases hc : b.G k * T < wg * b.S k
    · rw [if_pos hc]
      refine ⟨fun h => (by cases h), fun h => ?_⟩
      have := h k (Nat.le_refl _) h1
      omega
    · rw [if_neg hc, dry_spec hb hw hT n (k + 1) (by omega)]
      constructor
      · intro h j h2 h3
        by_cases hj : j = k
        · subst hj; omega
        · exact h j (by omega) h3
      · exact fun h j h2 h3 => h j (by omega) h3

theorem dry_all {b : Buoy} (hb : b.ok) {wg T : Int} (hw : 0 ≤ wg ∧ wg ≤ 1000000) (hT : 0 ≤ T ∧ T ≤ 1073741824) :
    dryGo b.h b.m b.a b.s b.wt wg T (b.a + 1).toNat 0 = true ↔ ∀ j : Nat, (j : Int) ≤ b.a → wg * b.S j ≤ b.G j * T := by
  have hok := hb
  unfold Buoy.ok at hok
  rw [dry_spec hb hw hT _ _ (by omega)]
  exact ⟨fun h j hj => h j (Nat.zero_le _) hj, fun h j _ hj => h j hj⟩

/-- What Carry's loop gives. -/
theorem carry_spec {b : Buoy} (hb : b.ok) {st : Int} (hs : 1 ≤ st ∧ st ≤ 1000000) : ∀ (n k : Nat) (t : Int), (k : Int) + n = b.a + 1 → 0 ≤ t →
    ((∃ j : Nat, k ≤ j ∧ (j : Int) ≤ b.a ∧ b.G j < 0) ∧ caGo b.h b.m b.a b.s b.wt st n k t = 0) ∨
    ((∀ j : Nat, k ≤ j → (j : Int) ≤ b.a → 0 ≤ b.G j) ∧ 0 ≤ caGo b.h b.m b.a b.s b.wt st n k t ∧ caGo b.h b.m b.a b.s b.wt st n k t ≤ t ∧
      ∀ w, 0 ≤ w → (w ≤ caGo b.h b.m b.a b.s b.wt st n k t ↔ w ≤ t ∧ ∀ j : Nat, k ≤ j → (j : Int) ≤ b.a → w * b.S j ≤ b.G j * st))
  | 0, k, t, hk, ht => .inr ⟨fun j h1 h2 => by omega, ht, Int.le_refl _, fun w _ => ⟨fun h => ⟨h, fun j h1 h2 => by omega⟩, fun h => h.1⟩⟩
  | n + 1, k, t, hk, ht => by
    have h1 : (k : Int) ≤ b.a := by omega
    have hd := Buoy.bd hb (x := k) (by omega) h1
    have eg := gap_eq hb (x := k) (by omega) h1
    have es := sag_eq hb (x := k) (by omega) h1
    have hgt := gt_bd hb (x := k) (T := st) (by omega) h1 (by omega)
    rw [caGo, eg, es]
    by_cases hG : b.G k < 0
    · exact .inl ⟨⟨k, Nat.le_refl _, h1, hG⟩, if_pos hG⟩
    · rw [if_neg hG]
      have hG0 : 0 ≤ b.G k := by omega
      have hp : 0 ≤ b.G k * st := Int.mul_nonneg hG0 (by omega)
      have hnx : 0 ≤ caNext st (b.G k) (b.S k) t ∧ caNext st (b.G k) (b.S k) t ≤ t ∧ ∀ w, 0 ≤ w → (w ≤ caNext st (b.G k) (b.S k) t ↔ w ≤ t ∧ w * b.S k ≤ b.G k * st) := by
        unfold caNext
        by_cases hS : b.S k > 0
        · rw [if_pos hS, Int.mul_comm st, wr_id (n := b.G k * st) (by omega), Int.tdiv_eq_ediv_of_nonneg hp]
          have e1 := Int.ediv_nonneg (a := b.G k * st) (b := b.S k) hp (by omega)
          have e2 := Int.ediv_le_self (a := b.G k * st) (b.S k) hp
          rw [wr_id (n := b.G k * st / b.S k) (by omega)]
          refine ⟨by omega, by omega, fun w hw => ?_⟩
          rw [Int.le_min, Int.le_ediv_iff_mul_le hS]
        · rw [if_neg hS]
          have hS0 : b.S k = 0 := by omega
          refine ⟨ht, Int.le_refl _, fun w hw => ⟨fun h => ⟨h, ?_⟩, fun h => h.1⟩⟩
          rw [hS0, Int.mul_zero]
          exact hp
      rcases carry_spec hb hs n (k + 1) _ (by omega) hnx.1 with ⟨⟨j, hj1, hj2, hj3⟩, he⟩ | ⟨hgood, h0, hle, hT⟩
      · exact .inl ⟨⟨j, by omega, hj2, hj3⟩, he⟩
      · refine .inr ⟨fun j h2 h3 => ?_, h0, by omega, fun w hw => ?_⟩
        · by_cases hj : j = k
          · subst hj; exact hG0
          · exact hgood j (by omega) h3
        · rw [hT w hw, hnx.2.2 w hw]
          constructor
          · rintro ⟨⟨a1, a2⟩, a3⟩
            refine ⟨a1, fun j h2 h3 => ?_⟩
            by_cases hj : j = k
            · subst hj; exact a2
            · exact a3 j (by omega) h3
          · rintro ⟨a1, a2⟩
            exact ⟨⟨a1, a2 k (Nat.le_refl _) h1⟩, fun j h2 h3 => a2 j (by omega) h3⟩

theorem bad_dry {b : Buoy} {w T : Int} (hw : 1 ≤ w) (hT : 1 ≤ T) {x : Int} (h : b.bad x) (hS : 0 ≤ b.S x) : ¬ w * b.S x ≤ b.G x * T := by
  have e := Int.mul_nonneg (a := w) (b := b.S x) (by omega) hS
  rcases h with h | ⟨h, h'⟩
  · have : b.G x * T < 0 := Int.mul_neg_of_neg_of_pos h (by omega)
    omega
  · rw [h, Int.zero_mul]
    have := Int.mul_pos (a := w) (b := b.S x) (by omega) h'
    omega

theorem neg_dry {b : Buoy} {w T : Int} (hw : 0 ≤ w) (hT : 1 ≤ T) {x : Int} (h : b.G x < 0) (hS : 0 ≤ b.S x) : ¬ w * b.S x ≤ b.G x * T := by
  have e := Int.mul_nonneg (a := w) (b := b.S x) hw hS
  have : b.G x * T < 0 := Int.mul_neg_of_neg_of_pos h (by omega)
  omega

/-- What the reference's search gives: the greatest weight up to 500. -/
theorem rc_spec {b : Buoy} (hb : b.ok) {st c : Int} (hs : 1 ≤ st ∧ st ≤ 1000000) (hc : ∀ w : Int, 1 ≤ w → w ≤ 500 → (dryGo b.h b.m b.a b.s b.wt w st (b.a + 1).toNat 0 = true ↔ w ≤ c)) (h0 : 0 ≤ c) (h5 : c ≤ 500) :
    ∀ (n : Nat) (t : Int), t + n = 500 → 0 ≤ t → t ≤ c → rcGo b.h b.m b.a b.s b.wt st n t = c
  | 0, t, hn, ht, hle => by rw [rcGo]; omega
  | n + 1, t, hn, ht, hle => by
    rw [rcGo]
    split
    · rename_i h
      exact rc_spec hb hs hc h0 h5 n (t + 1) (by omega) (by omega) ((hc (t + 1) (by omega) (by omega)).1 h)
    · rename_i h
      have : ¬ t + 1 ≤ c := fun h' => h ((hc (t + 1) (by omega) (by omega)).2 h')
      omega

theorem rc_eq {b : Buoy} (hb : b.ok) {st : Int} (hs : 1 ≤ st ∧ st ≤ 1000000) : rcGo b.h b.m b.a b.s b.wt st 500 0 = caGo b.h b.m b.a b.s b.wt st (b.a + 1).toNat 0 500 := by
  have hok := hb
  unfold Buoy.ok at hok
  rcases carry_spec hb hs (b.a + 1).toNat 0 500 (by omega) (by omega) with ⟨⟨j, _, hj2, hj3⟩, he⟩ | ⟨hgood, h0, hle, hT⟩
  · rw [he]
    refine rc_spec hb hs (fun w h1 h5 => ?_) (by omega) (by omega) 500 0 rfl (by omega) (by omega)
    rw [dry_all hb (by omega) (by omega)]
    refine ⟨fun h => ?_, fun h => by omega⟩
    have hd := Buoy.bd hb (x := j) (by omega) hj2
    exact absurd (h j hj2) (neg_dry (by omega) hs.1 hj3 (by omega))
  · refine rc_spec hb hs (fun w h1 h5 => ?_) h0 hle 500 0 rfl (by omega) h0
    rw [dry_all hb (by omega) (by omega), hT w (by omega)]
    exact ⟨fun h => ⟨h5, fun j _ hj => h j hj⟩, fun h j hj => h.2 j (Nat.zero_le _) hj⟩

theorem ok_of_check {h m a s lo hi wt : Int} (hc : checkV h m a s lo hi wt = 0) : Buoy.ok ⟨h, m, a, s, lo, hi, wt⟩ := by
  have := check_zero hc
  simp only [isBuoyB, inB, Bool.and_eq_true, decide_eq_true_eq] at this
  simp only [Buoy.ok]
  omega

theorem slack_law (h m a s lo hi wt : Int) : slackR h m a s lo hi wt = rslackR h m a s lo hi wt := by
  unfold slackR rslackR
  split
  · rename_i hc
    have hb := ok_of_check hc
    have hok := hb
    unfold Buoy.ok at hok
    simp only [] at hok
    exact (rs_eq hb (a + 1).toNat 0 1 (by simp only []; omega) (by omega)).symm
  · rfl

theorem carry_law (h m a s lo hi wt st : Int) : carryR h m a s lo hi wt st = rcarryR h m a s lo hi wt st := by
  unfold carryR rcarryR
  split
  · rename_i hv
    unfold carryV at hv
    split at hv
    · rename_i hc
      split at hv
      · rename_i hs
        have hb := ok_of_check hc
        have hs' : 1 ≤ st ∧ st ≤ 1000000 := by simpa [inB] using hs
        have := rc_eq hb hs'
        simp only [] at this
        rw [this]
      · cases hv
    · rename_i hc
      exact absurd hv hc
  · rfl

end Go.Proofs.Ytpfbpelkodlljaa
