/- A part of a proof: the symbolic walk and what it shows of single functions. -/
import Derived.Test.YtpfbpelkodlljaaSxV11
set_option linter.all false
namespace Go.Proofs.Ytpfbpelkodlljaa
open Go.RowKit Go.SX
set_option maxRecDepth 4000
set_option linter.unusedSimpArgs false
set_option linter.unusedVariables false

/-! ### Bounds, plainly -/

theorem vv_bd {v : Int} (hv : 1 ≤ v ∧ v ≤ 20) : 1 ≤ v * v ∧ v * v ≤ 400 := by
  have := mul_bd0 (show 0 ≤ v - 1 by omega) (show v - 1 ≤ 19 by omega) (show 0 ≤ v by omega) hv.2
  have e := mul_bd0 (show 0 ≤ v by omega) hv.2 (show 0 ≤ v by omega) hv.2
  rw [Int.sub_mul] at this
  omega

theorem hold_iff {u : Tw} (hu : u.ok) {v d : Int} (hv : 1 ≤ v ∧ v ≤ 20) {t : Int} : t ≤ (bV u v d).1.2 ↔ v * v * t ≤ u.str := by
  have h2 := vv_bd hv
  have e1 : wr (v * v) = v * v := wrap_id (by omega)
  unfold Tw.ok at hu
  have e2 : (bV u v d).1.2 = u.str / (v * v) := by
    have : wr (u.str.tdiv (wr (v * v))) = u.str / (v * v) := by
      rw [e1, Int.tdiv_eq_ediv_of_nonneg (by omega)]
      have a1 := Int.ediv_nonneg (a := u.str) (b := v * v) (by omega) (by omega)
      have a2 := Int.ediv_le_self (a := u.str) (v * v) (by omega)
      exact wrap_id (by omega)
    unfold bV boundsV
    split
    · split
      · exact this
      · exact this
    · exact this
  rw [e2, Int.le_ediv_iff_mul_le (by omega), Int.mul_comm]

theorem up_le0 {x g T : Int} (hg : 0 < g) (hx : 0 ≤ x) : (x + g - 1).tdiv g ≤ T ↔ x ≤ T * g := by
  rw [Int.tdiv_eq_ediv_of_nonneg (by omega)]
  constructor
  · intro h
    have := (Int.ediv_le_iff_le_mul hg).1 h
    omega
  · intro h
    exact (Int.ediv_le_iff_le_mul hg).2 (by omega)

theorem hang_iff {u : Tw} (hu : u.ok) {v d : Int} (hv : 1 ≤ v ∧ v ≤ 20) (hd : 0 ≤ d ∧ d ≤ 1000) {t : Int} (ht : 0 ≤ t) : (¬ (u.mass > 0 ∧ d = 0) ∧ (bV u v d).1.1 ≤ t) ↔ u.mass * u.len * u.len ≤ 8 * (v * v * t) * d := by
  have h2 := vv_bd hv
  have h3 := mul_bd0 (show 0 ≤ v * v by omega) h2.2 hd.1 hd.2
  unfold Tw.ok at hu
  have m1 := mul_bd0 (show 0 ≤ u.mass by omega) (show u.mass ≤ 20 by omega) (show 0 ≤ u.len by omega) (show u.len ≤ 2000 by omega)
  have m2 := mul_bd0 m1.1 m1.2 (show 0 ≤ u.len by omega) (show u.len ≤ 2000 by omega)
  have eR : 8 * (v * v * t) * d = t * (8 * v * v * d) := by
    rw [Int.mul_comm t, Int.mul_assoc, Int.mul_assoc, Int.mul_assoc 8 v v, Int.mul_assoc 8 (v * v) d, Int.mul_assoc 8 ((v * v) * d) t, Int.mul_assoc (v * v) d t, Int.mul_comm d t, ← Int.mul_assoc (v * v) t d]
  by_cases hm : u.mass > 0
  · by_cases hd0 : d = 0
    · subst hd0
      have a1 : 1 ≤ u.mass * u.len := Int.mul_pos hm (by omega)
      have a2 : 1 ≤ u.mass * u.len * u.len := Int.mul_pos a1 (by omega)
      constructor
      · rintro ⟨h, _⟩
        exact absurd ⟨hm, rfl⟩ h
      · intro h
        rw [Int.mul_zero] at h
        omega
    · have hpos : 0 < v * v * d := Int.mul_pos (by omega) (by omega)
      have e8 : 8 * v * v * d = 8 * (v * v * d) := by simp only [Int.mul_assoc]
      have hp8 : 0 < 8 * v * v * d := by omega
      have w1 : wr (u.mass * u.len) = u.mass * u.len := wrap_id (by omega)
      have w2 : wr (u.mass * u.len * u.len) = u.mass * u.len * u.len := wrap_id (by omega)
      have w3 : wr (8 * v) = 8 * v := wrap_id (by omega)
      have w4 : wr (8 * v * v) = 8 * v * v := wrap_id (by rw [Int.mul_assoc]; omega)
      have w5 : wr (8 * v * v * d) = 8 * v * v * d := wrap_id (by omega)
      have e1 : (bV u v d).1.1 = (u.mass * u.len * u.len + 8 * v * v * d - 1).tdiv (8 * v * v * d) := by
        unfold bV boundsV
        rw [if_pos hm, if_neg hd0, w1, w2, w3, w4, w5]
        unfold upV
        rw [show wr (u.mass * u.len * u.len + 8 * v * v * d) = u.mass * u.len * u.len + 8 * v * v * d from wrap_id (by omega), show wr (u.mass * u.len * u.len + 8 * v * v * d - 1) = u.mass * u.len * u.len + 8 * v * v * d - 1 from wrap_id (by omega)]
        refine wrap_id ?_
        rw [Int.tdiv_eq_ediv_of_nonneg (by omega)]
        have a1 := Int.ediv_nonneg (a := u.mass * u.len * u.len + 8 * v * v * d - 1) (b := 8 * v * v * d) (by omega) (by omega)
        have a2 := Int.ediv_le_self (a := u.mass * u.len * u.len + 8 * v * v * d - 1) (8 * v * v * d) (by omega)
        omega
      rw [e1, up_le0 hp8 m2.1, eR]
      exact ⟨fun h => h.2, fun h => ⟨fun h' => hd0 h'.2, h⟩⟩
  · have hm0 : u.mass = 0 := by omega
    have e1 : (bV u v d).1.1 = 0 := by unfold bV boundsV; rw [if_neg hm]
    rw [e1, hm0, Int.zero_mul, Int.zero_mul, eR]
    have := Int.mul_nonneg ht (show 0 ≤ 8 * v * v * d by rw [show 8 * v * v * d = 8 * (v * v * d) by simp only [Int.mul_assoc]]; omega)
    exact ⟨fun _ => this, fun _ => ⟨fun h => by omega, ht⟩⟩

theorem is_iff {u : Tw} {v d : Int} : (bV u v d).2 = true ↔ ¬ (u.mass > 0 ∧ d = 0) ∧ (bV u v d).1.1 ≤ (bV u v d).1.2 := by
  unfold bV boundsV
  split
  · rename_i h
    split
    · rename_i h'
      simp [h, h']
    · rename_i h'
      simp [h']
  · rename_i h
    simp [h]

/-- A unit holds surely, as the reference says it. -/
def sureU (v d : Int) (us : List Tw) (i : Nat) (u : Tw) : Bool := decide (v * v * hiS us i ≤ u.str) && decide (u.mass * u.len * u.len ≤ 8 * (v * v * loS us i) * d)

theorem lo_le_hi {us : List Tw} (h : ∀ u ∈ us, u.ok) : 0 ≤ loS us 0 ∧ loS us 0 ≤ hiS us 0 := by
  unfold loS hiS
  rw [List.drop_zero]
  induction us with
  | nil => simp
  | cons u us ih =>
    have h1 := ih fun v hv => h v (List.mem_cons_of_mem _ hv)
    have h2 := h u List.mem_cons_self
    unfold Tw.ok at h2
    simp only [List.map_cons, List.sum_cons]
    omega

theorem sureL_iff {v d : Int} (hv : 1 ≤ v ∧ v ≤ 20) (hd : 0 ≤ d ∧ d ≤ 1000) : ∀ {us : List Tw}, (∀ u ∈ us, u.ok) → (sureL v d us = true ↔ ∀ i u, us[i]? = some u → sureU v d us i u = true)
  | [], _ => ⟨fun _ i u h => by simp at h, fun _ => rfl⟩
  | u :: r, ho => by
    have hu := ho u List.mem_cons_self
    have hr := sureL_iff hv hd fun x hx => ho x (List.mem_cons_of_mem _ hx)
    have hlh := lo_le_hi ho
    have h1 := hold_iff (d := d) hu hv (t := hiS (u :: r) 0)
    have h2 := hang_iff hu hv hd hlh.1
    rw [sureL, Bool.and_eq_true, hr]
    constructor
    · rintro ⟨ha, hb⟩ i x hx
      cases i with
      | zero =>
        simp at hx
        subst hx
        simp only [Bool.and_eq_true, decide_eq_true_eq] at hb
        unfold sureU
        rw [decide_eq_true (h1.1 hb.2.2), decide_eq_true (h2.1 ⟨(is_iff.1 hb.1).1, hb.2.1⟩)]
        rfl
      | succ i =>
        simp at hx
        exact ha i x hx
    · intro h
      refine ⟨fun i x hx => h (i + 1) x (by simpa using hx), ?_⟩
      have h0 := h 0 u rfl
      unfold sureU at h0
      simp only [Bool.and_eq_true, decide_eq_true_eq] at h0 ⊢
      have a1 := h1.2 h0.1
      have a2 := h2.2 h0.2
      exact ⟨is_iff.2 ⟨a2.1, by omega⟩, a2.2, a1⟩

theorem cond_iff {u : Tw} (hu : u.ok) {v d : Int} (hv : 1 ≤ v ∧ v ≤ 20) (hd : 0 ≤ d ∧ d ≤ 1000) (t : Nat) : condB v d u t = true ↔ ¬ (u.mass > 0 ∧ d = 0) ∧ (bV u v d).1.1 ≤ t ∧ (t : Int) ≤ (bV u v d).1.2 := by
  have h1 := hold_iff (d := d) hu hv (t := (t : Int))
  have h2 := hang_iff hu hv hd (t := (t : Int)) (by omega)
  unfold condB
  simp only [Bool.and_eq_true, decide_eq_true_eq]
  rw [← h1, ← h2]
  constructor
  · rintro ⟨a, b, c⟩
    exact ⟨b, c, a⟩
  · rintro ⟨a, b, c⟩
    exact ⟨c, a, b⟩

theorem canL_spec {v d : Int} (hv : 1 ≤ v ∧ v ≤ 20) (hd : 0 ≤ d ∧ d ≤ 1000) : ∀ {us : List Tw}, (∀ u ∈ us, u.ok) → us.length ≤ 8 →
    (canL v d us = none ∧ ∀ t, ¬ canS v d us t) ∨ ∃ lo hi : Int, canL v d us = some (lo, hi) ∧ 0 ≤ lo ∧ lo ≤ hi ∧ hi ≤ 100 * us.length ∧ ∀ t : Nat, canS v d us t ↔ lo ≤ t ∧ (t : Int) ≤ hi
  | [], _, _ => .inr ⟨0, 0, rfl, by omega, by omega, by simp, fun t => by rw [canS]; omega⟩
  | u :: r, ho, hl => by
    have hu := ho u List.mem_cons_self
    have hu' := hu
    unfold Tw.ok at hu'
    have hc := fun t => cond_iff hu hv hd t
    rw [List.length_cons] at hl
    rcases canL_spec hv hd (us := r) (fun x hx => ho x (List.mem_cons_of_mem _ hx)) (by omega) with ⟨hn, hno⟩ | ⟨lo, hi, hs, h0, h1, h2, hiff⟩
    · refine .inl ⟨by rw [canL, hn]; rfl, fun t ht => ?_⟩
      obtain ⟨_, s, h, _⟩ := ht
      exact hno s h
    · have e1 : wr (lo + u.dl) = lo + u.dl := wrap_id (by omega)
      have e2 : wr (hi + u.dh) = hi + u.dh := wrap_id (by omega)
      have key : ∀ t : Nat, canS v d (u :: r) t ↔ ¬ (u.mass > 0 ∧ d = 0) ∧ max (lo + u.dl) (bV u v d).1.1 ≤ t ∧ (t : Int) ≤ min (hi + u.dh) (bV u v d).1.2 := fun t => by
        rw [canS, hc]
        constructor
        · rintro ⟨⟨a, b, c⟩, s, h, h3, h4⟩
          have := (hiff s).1 h
          omega
        · rintro ⟨a, b, c⟩
          refine ⟨⟨a, by omega, by omega⟩, ?_⟩
          -- some s between
          by_cases hx : (t : Int) - u.dl ≤ hi
          · exact ⟨t - u.dl.toNat, (hiff _).2 (by omega), by omega, by omega⟩
          · exact ⟨hi.toNat, (hiff _).2 (by omega), by omega, by omega⟩
      rw [canL, hs]
      simp only [Option.bind]
      unfold canStep
      simp only [e1, e2]
      by_cases hb : (bV u v d).2 = true ∧ ¬ max (lo + u.dl) (bV u v d).1.1 > min (hi + u.dh) (bV u v d).1.2
      · rw [if_pos hb]
        have hi' := is_iff.1 hb.1
        refine .inr ⟨_, _, rfl, by omega, by omega, by rw [List.length_cons]; omega, fun t => ?_⟩
        rw [key]
        exact ⟨fun h => h.2, fun h => ⟨hi'.1, h⟩⟩
      · rw [if_neg hb]
        refine .inl ⟨rfl, fun t ht => hb ?_⟩
        have := (key t).1 ht
        exact ⟨is_iff.2 ⟨this.1, by omega⟩, by omega⟩

theorem can_some {v d : Int} (hv : 1 ≤ v ∧ v ≤ 20) (hd : 0 ≤ d ∧ d ≤ 1000) {us : List Tw} (hok : okT us) : (canL v d us).isSome = true ↔ ∃ t, t < 801 ∧ canS v d us t := by
  have h8 := hok.2.1
  rcases canL_spec hv hd hok.2.2 h8 with ⟨hn, hno⟩ | ⟨lo, hi, hs, h0, h1, h2, hiff⟩
  · rw [hn]
    exact ⟨fun h => (by cases h), fun ⟨t, _, h⟩ => absurd h (hno t)⟩
  · rw [hs]
    exact ⟨fun _ => ⟨lo.toNat, by omega, (hiff _).2 (by omega)⟩, fun _ => rfl⟩

end Go.Proofs.Ytpfbpelkodlljaa
