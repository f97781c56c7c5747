/- A part of a proof: the symbolic walk and what it shows of single functions. -/
import Derived.Test.YtpfbpelkodlljaaSxV7
set_option linter.all false
namespace Go.Proofs.Ytpfbpelkodlljaa
open Go.RowKit Go.SX
set_option maxRecDepth 4000
set_option linter.unusedSimpArgs false
set_option linter.unusedVariables false

/-! ### Buoys, plainly -/

theorem mul_bd {a b A B : Int} (h1 : 0 ≤ a) (h2 : a ≤ A) (h3 : 0 ≤ b) (h4 : b ≤ B) : 0 ≤ a * b ∧ a * b ≤ A * B :=
  ⟨Int.mul_nonneg h1 h3, Int.mul_le_mul h2 h4 h3 (Int.le_trans h1 h2)⟩

structure Buoy where
  h : Int
  m : Int
  a : Int
  s : Int
  lo : Int
  hi : Int
  wt : Int

def Buoy.ok (b : Buoy) : Prop := 0 ≤ b.h ∧ b.h ≤ 2000 ∧ 0 ≤ b.m ∧ b.m ≤ 2000 ∧ 1 ≤ b.a ∧ b.a ≤ 500 ∧ 0 ≤ b.s ∧ b.s ≤ 2000 ∧ 1 ≤ b.lo ∧ b.lo ≤ b.hi ∧ b.hi ≤ 500 ∧ -2000 ≤ b.wt ∧ b.wt ≤ 2000

def Buoy.G (b : Buoy) (x : Int) : Int := b.h * (b.a - x) + b.m * x - b.a * (b.s + b.wt)
def Buoy.S (b : Buoy) (x : Int) : Int := x * (b.a - x)

theorem Buoy.bd {b : Buoy} (hb : b.ok) {x : Int} (h0 : 0 ≤ x) (h1 : x ≤ b.a) : -4000000 ≤ b.G x ∧ b.G x ≤ 4000000 ∧ 0 ≤ b.S x ∧ b.S x ≤ 250000 ∧ 0 ≤ b.h * (b.a - x) ∧ b.h * (b.a - x) ≤ 1000000 ∧ 0 ≤ b.m * x ∧ b.m * x ≤ 1000000 ∧ -1000000 ≤ b.a * (b.s + b.wt) ∧ b.a * (b.s + b.wt) ≤ 3000000 := by
  unfold Buoy.ok at hb
  have e1 := mul_bd (a := b.h) (b := b.a - x) (A := 2000) (B := 500) (by omega) (by omega) (by omega) (by omega)
  have e2 := mul_bd (a := b.m) (b := x) (A := 2000) (B := 500) (by omega) (by omega) (by omega) (by omega)
  have e3 := mul_bd (a := b.a) (b := b.s + b.wt + 2000) (A := 500) (B := 6000) (by omega) (by omega) (by omega) (by omega)
  have e4 := mul_bd (a := x) (b := b.a - x) (A := 500) (B := 500) (by omega) (by omega) (by omega) (by omega)
  have e5 : b.a * (b.s + b.wt + 2000) = b.a * (b.s + b.wt) + 2000 * b.a := by rw [Int.mul_add b.a (b.s + b.wt) 2000]; omega
  unfold Buoy.G Buoy.S
  omega

theorem wr_id {n : Int} (h : -9223372036854775808 ≤ n ∧ n ≤ 9223372036854775807) : wr n = n := wrap_id h

theorem gap_eq {b : Buoy} (hb : b.ok) {x : Int} (h0 : 0 ≤ x) (h1 : x ≤ b.a) : gapV b.h b.m b.a b.s b.wt x = b.G x := by
  have hd := Buoy.bd hb h0 h1
  unfold Buoy.ok at hb
  unfold gapV
  rw [wr_id (n := b.a - x) (by omega), wr_id (n := b.h * (b.a - x)) (by omega), wr_id (n := b.m * x) (by omega), wr_id (n := b.s + b.wt) (by omega), wr_id (n := b.a * (b.s + b.wt)) (by omega), wr_id (n := b.h * (b.a - x) + b.m * x) (by omega)]
  exact wr_id (by unfold Buoy.G at hd; omega)

theorem room_eq {b : Buoy} (hb : b.ok) {x : Int} (h0 : 0 ≤ x) (h1 : x ≤ b.a) : roomW b.h b.m b.a b.s b.wt x = b.G x := by
  have hd := Buoy.bd hb h0 h1
  rw [Int.mul_comm b.a (b.s + b.wt)] at hd
  have hg : b.G x = b.h * (b.a - x) + b.m * x - (b.s + b.wt) * b.a := by rw [Buoy.G, Int.mul_comm b.a]
  unfold Buoy.ok at hb
  unfold roomW
  rw [wr_id (n := b.a - x) (by omega), wr_id (n := b.h * (b.a - x)) (by omega), wr_id (n := b.m * x) (by omega), wr_id (n := b.s + b.wt) (by omega), wr_id (n := (b.s + b.wt) * b.a) (by omega), wr_id (n := b.h * (b.a - x) + b.m * x) (by omega), hg]
  exact wr_id (by omega)

theorem sag_eq {b : Buoy} (hb : b.ok) {x : Int} (h0 : 0 ≤ x) (h1 : x ≤ b.a) : sagV b.a x = b.S x := by
  have hd := Buoy.bd hb h0 h1
  unfold Buoy.ok at hb
  unfold sagV
  rw [wr_id (n := b.a - x) (by omega)]
  exact wr_id (by unfold Buoy.S at hd; omega)

theorem wsag_eq {b : Buoy} (hb : b.ok) {x g : Int} (h0 : 0 ≤ x) (h1 : x ≤ b.a) (hg : 0 ≤ g ∧ g ≤ 1000000) : wr (wr (g * x) * wr (b.a - x)) = g * b.S x := by
  have hd := Buoy.bd hb h0 h1
  have e1 := mul_bd (a := g) (b := x) (A := 1000000) (B := 500) (by omega) (by omega) (by omega) (by unfold Buoy.ok at hb; omega)
  have e2 := mul_bd (a := g) (b := b.S x) (A := 1000000) (B := 250000) (by omega) (by omega) (by omega) (by omega)
  unfold Buoy.ok at hb
  rw [wr_id (n := b.a - x) (by omega), wr_id (n := g * x) (by omega), Int.mul_assoc]
  exact wr_id (by unfold Buoy.S at e2; omega)

theorem up_le {x g T : Int} (hg : 0 < g) (hx : 0 ≤ x) : (x + g - 1).tdiv g ≤ T ↔ x ≤ T * g := by
  rw [Int.tdiv_eq_ediv_of_nonneg (by omega)]
  constructor
  · intro h
    have := (Int.ediv_le_iff_le_mul hg).1 h
    omega
  · intro h
    exact (Int.ediv_le_iff_le_mul hg).2 (by omega)

/-- A place where nothing helps. -/
def Buoy.bad (b : Buoy) (x : Int) : Prop := b.G x < 0 ∨ b.G x = 0 ∧ 0 < b.S x

theorem slack_spec {b : Buoy} (hb : b.ok) : ∀ (n k : Nat) (t : Int), (k : Int) + n = b.a + 1 → 1 ≤ t →
    ((∃ j : Nat, k ≤ j ∧ (j : Int) ≤ b.a ∧ b.bad j) ∧ slGo b.h b.m b.a b.s b.hi b.wt n k t = (0, 3)) ∨
    ((∀ j : Nat, k ≤ j → (j : Int) ≤ b.a → ¬ b.bad j) ∧ ∃ r, slGo b.h b.m b.a b.s b.hi b.wt n k t = (r, 0) ∧ t ≤ r ∧ ∀ T, r ≤ T ↔ t ≤ T ∧ ∀ j : Nat, k ≤ j → (j : Int) ≤ b.a → b.hi * b.S j ≤ b.G j * T)
  | 0, k, t, hk, ht => .inr ⟨fun j h1 h2 => by omega, t, rfl, Int.le_refl _, fun T => ⟨fun h => ⟨h, fun j h1 h2 => by omega⟩, fun h => h.1⟩⟩
  | n + 1, k, t, hk, ht => by
    have h1 : (k : Int) ≤ b.a := by omega
    have hd := Buoy.bd hb (x := k) (by omega) h1
    have hok := hb
    unfold Buoy.ok at hok
    have eg := gap_eq hb (x := k) (by omega) h1
    have es := sag_eq hb (x := k) (by omega) h1
    have hm := mul_bd (a := b.hi) (b := b.S k) (A := 500) (B := 250000) (by omega) (by omega) (by omega) (by omega)
    rw [slGo, eg, es]
    by_cases hbad : b.bad k
    · refine .inl ⟨⟨k, Nat.le_refl _, h1, hbad⟩, if_pos ?_⟩
      unfold Buoy.bad at hbad
      unfold slBad
      rcases hbad with h | ⟨h, h'⟩
      · simp [h]
      · simp [h, h']
    · have hnb : slBad (b.G k) (b.S k) = false := by
        unfold Buoy.bad at hbad
        unfold slBad
        simp only [Bool.or_eq_false_iff, Bool.and_eq_false_iff, decide_eq_false_iff_not]
        omega
      rw [if_neg (by rw [hnb]; simp)]
      have hG : 0 ≤ b.G k := by unfold Buoy.bad at hbad; omega
      -- the next tension
      have hnx : 1 ≤ slNext b.hi (b.G k) (b.S k) t ∧ t ≤ slNext b.hi (b.G k) (b.S k) t ∧ ∀ T, slNext b.hi (b.G k) (b.S k) t ≤ T ↔ t ≤ T ∧ b.hi * b.S k ≤ b.G k * T := by
        unfold slNext
        by_cases hS : b.S k > 0
        · have hg : 0 < b.G k := by unfold Buoy.bad at hbad; omega
          rw [if_pos hS, wr_id (n := b.hi * b.S k) (by omega)]
          have hu : upV (b.hi * b.S k) (b.G k) = (b.hi * b.S k + b.G k - 1).tdiv (b.G k) := by
            unfold upV
            rw [wr_id (n := b.hi * b.S k + b.G k) (by omega), wr_id (n := b.hi * b.S k + b.G k - 1) (by omega)]
            refine wr_id ?_
            rw [Int.tdiv_eq_ediv_of_nonneg (by omega)]
            have e1 := Int.ediv_nonneg (a := b.hi * b.S k + b.G k - 1) (b := b.G k) (by omega) (by omega)
            have e2 := Int.ediv_le_self (a := b.hi * b.S k + b.G k - 1) (b.G k) (by omega)
            omega
          rw [hu]
          refine ⟨by omega, by omega, fun T => ?_⟩
          rw [Int.max_le, up_le hg hm.1, Int.mul_comm (b.G k) T]
        · rw [if_neg hS]
          have hS0 : b.S k = 0 := by omega
          refine ⟨ht, Int.le_refl _, fun T => ⟨fun h => ⟨h, ?_⟩, fun h => h.1⟩⟩
          rw [hS0, Int.mul_zero]
          exact Int.mul_nonneg hG (by omega)
      rcases slack_spec hb n (k + 1) _ (by omega) hnx.1 with ⟨⟨j, hj1, hj2, hj3⟩, he⟩ | ⟨hgood, r, he, hr, hT⟩
      · exact .inl ⟨⟨j, by omega, hj2, hj3⟩, he⟩
      · refine .inr ⟨fun j h1 h2 => ?_, r, he, by omega, fun T => ?_⟩
        · by_cases hj : j = k
          · subst hj; exact hbad
          · exact hgood j (by omega) h2
        · rw [hT, hnx.2.2]
          constructor
          · rintro ⟨⟨a1, a2⟩, a3⟩
            refine ⟨a1, fun j h1 h2 => ?_⟩
            by_cases hj : j = k
            · subst hj; exact a2
            · exact a3 j (by omega) h2
          · rintro ⟨a1, a2⟩
            exact ⟨⟨a1, a2 k (Nat.le_refl _) h1⟩, fun j h1 h2 => a2 j (by omega) h2⟩

theorem rs_eq {b : Buoy} (hb : b.ok) : ∀ (n k : Nat) (t : Int), (k : Int) + n = b.a + 1 → 1 ≤ t → rsGo b.h b.m b.a b.s b.hi b.wt n k t = slGo b.h b.m b.a b.s b.hi b.wt n k t
  | 0, k, t, hk, ht => rfl
  | n + 1, k, t, hk, ht => by
    have h1 : (k : Int) ≤ b.a := by omega
    have hd := Buoy.bd hb (x := k) (by omega) h1
    have hok := hb
    unfold Buoy.ok at hok
    have eg := gap_eq hb (x := k) (by omega) h1
    have er := room_eq hb (x := k) (by omega) h1
    have es := sag_eq hb (x := k) (by omega) h1
    have ew : rsSag b.a b.hi k = b.hi * b.S k := wsag_eq hb (by omega) h1 (by omega)
    have hm := mul_bd (a := b.hi) (b := b.S k) (A := 500) (B := 250000) (by omega) (by omega) (by omega) (by omega)
    rw [slGo, rsGo, eg, es, er, ew]
    have hpos : b.hi * b.S k > 0 ↔ b.S k > 0 := by
      constructor
      · intro h
        by_cases h0 : b.S k = 0
        · rw [h0, Int.mul_zero] at h; omega
        · omega
      · intro h
        exact Int.mul_pos (by omega) h
    have ebad : rsBad (b.G k) (b.hi * b.S k) = slBad (b.G k) (b.S k) := by
      unfold rsBad slBad
      rw [decide_eq_decide.2 hpos]
    rw [ebad]
    cases hs : slBad (b.G k) (b.S k) with
    | true => rfl
    | false =>
      simp only [Bool.false_eq_true, if_false]
      have hnx : rsNext (b.G k) (b.hi * b.S k) t = slNext b.hi (b.G k) (b.S k) t ∧ 1 ≤ slNext b.hi (b.G k) (b.S k) t := by
        unfold slBad at hs
        simp only [Bool.or_eq_false_iff, Bool.and_eq_false_iff, decide_eq_false_iff_not] at hs
        unfold rsNext slNext
        by_cases hS : b.S k > 0
        · have hg : 0 < b.G k := by omega
          rw [if_pos hS, if_pos hg, wr_id (n := b.hi * b.S k) (by omega)]
          refine ⟨rfl, by omega⟩
        · have hS0 : b.S k = 0 := by omega
          rw [if_neg hS, hS0, Int.mul_zero]
          refine ⟨?_, ht⟩
          split
          · rename_i hg
            rw [wr_id (n := 0 + b.G k) (by omega), wr_id (n := 0 + b.G k - 1) (by omega), Int.tdiv_eq_ediv_of_nonneg (by omega), Int.ediv_eq_zero_of_lt (by omega) (by omega)]
            have : wr 0 = 0 := wr_id (by omega)
            omega
          · rfl
      rw [hnx.1]
      exact rs_eq hb n (k + 1) _ (by omega) hnx.2

end Go.Proofs.Ytpfbpelkodlljaa
