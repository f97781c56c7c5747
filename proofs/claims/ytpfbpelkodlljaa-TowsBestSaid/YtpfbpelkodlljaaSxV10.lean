/- A part of a proof: the symbolic walk and what it shows of single functions. -/
import Derived.Test.YtpfbpelkodlljaaSxV9
set_option linter.all false
namespace Go.Proofs.Ytpfbpelkodlljaa
open Go.RowKit Go.SX
set_option maxRecDepth 4000
set_option maxHeartbeats 4000000
set_option linter.unusedSimpArgs false
set_option linter.unusedVariables false

/-! ### The reference's sums -/

/-- A line holds, and hangs clear, with a sum of drags behind it. -/
def condB (v d : Int) (u : Tw) (t : Nat) : Bool := decide (v * v * (t : Int) ≤ u.str) && decide (u.mass * u.len * u.len ≤ 8 * (v * v * (t : Int)) * d)

/-- The sums that can be. -/
def canS (v d : Int) : List Tw → Nat → Prop
  | [], t => t = 0
  | u :: r, t => condB v d u t = true ∧ ∃ s, canS v d r s ∧ s + u.dl.toNat ≤ t ∧ t ≤ s + u.dh.toNat

theorem canS_le {v d : Int} : ∀ {us : List Tw}, (∀ u ∈ us, u.ok) → ∀ {t : Nat}, canS v d us t → t ≤ 100 * us.length
  | [], _, t, h => by rw [canS] at h; simp [h]
  | u :: r, ho, t, h => by
    obtain ⟨_, s, hs, _, h2⟩ := h
    have := canS_le (fun x hx => ho x (List.mem_cons_of_mem _ hx)) hs
    have hu := ho u List.mem_cons_self
    unfold Tw.ok at hu
    rw [List.length_cons]
    omega

open Classical in
noncomputable def canR (v d : Int) (us : List Tw) : List Bool := (List.range 801).map fun t => decide (canS v d us t)

/-- What the loops have found: all s below k, and of k the drags below j. -/
def canP (v d : Int) (u : Tw) (r : List Tw) (k j : Nat) (t : Nat) : Prop :=
  condB v d u t = true ∧ ((∃ s, s < k ∧ canS v d r s ∧ s + u.dl.toNat ≤ t ∧ t ≤ s + u.dh.toNat) ∨ (canS v d r k ∧ k + u.dl.toNat ≤ t ∧ t < k + j))

open Classical in
noncomputable def canK (v d : Int) (u : Tw) (r : List Tw) (k j : Nat) : List Bool := (List.range 801).map fun t => decide (canP v d u r k j t)

theorem canK_len (v d : Int) (u : Tw) (r : List Tw) (k j : Nat) : (canK v d u r k j).length = 801 := by simp [canK]
theorem canR_len (v d : Int) (us : List Tw) : (canR v d us).length = 801 := by simp [canR]

theorem canK_0 {v d : Int} {u : Tw} {r : List Tw} (j : Nat) (hj : j ≤ u.dl.toNat) : List.replicate 801 false = canK v d u r 0 j := by
  apply List.ext_getElem?
  intro t
  by_cases ht : t < 801
  · have : ¬ canP v d u r 0 j t := fun h => by
      rcases h.2 with ⟨s, h, _⟩ | ⟨_, h1, h2⟩ <;> omega
    simp [-List.reduceReplicate, canK, ht, List.getElem?_replicate, this]
  · simp [-List.reduceReplicate, canK, ht, List.getElem?_replicate]

theorem canK_step {v d : Int} {u : Tw} {r : List Tw} {k j : Nat} (hk : canS v d r k) (hj : u.dl.toNat ≤ j) (ht : k + j < 801) : (condB v d u (k + j) = true → (canK v d u r k j).set (k + j) true = canK v d u r k (j + 1)) ∧ (condB v d u (k + j) = false → canK v d u r k j = canK v d u r k (j + 1)) := by
  have key : ∀ t, canP v d u r k (j + 1) t ↔ canP v d u r k j t ∨ (t = k + j ∧ condB v d u t = true) := fun t => by
    unfold canP
    constructor
    · rintro ⟨h1, h2 | ⟨h2, h3, h4⟩⟩
      · exact .inl ⟨h1, .inl h2⟩
      · by_cases e : t = k + j
        · exact .inr ⟨e, h1⟩
        · exact .inl ⟨h1, .inr ⟨h2, h3, by omega⟩⟩
    · rintro (⟨h1, h2 | ⟨h2, h3, h4⟩⟩ | ⟨rfl, h1⟩)
      · exact ⟨h1, .inl h2⟩
      · exact ⟨h1, .inr ⟨h2, h3, by omega⟩⟩
      · exact ⟨h1, .inr ⟨hk, by omega, by omega⟩⟩
  refine ⟨fun hc => ?_, fun hc => ?_⟩
  · apply List.ext_getElem?
    intro t
    rw [List.getElem?_set]
    by_cases h8 : t < 801
    · by_cases e : k + j = t
      · subst e
        simp [canK, h8, key, hc]
      · rw [if_neg e]
        have : ¬ (t = k + j ∧ condB v d u t = true) := fun h => e h.1.symm
        simp [canK, h8, key, this]
    · simp [canK, h8, List.getElem?_eq_none]
      omega
  · apply List.ext_getElem?
    intro t
    by_cases h8 : t < 801
    · have : ¬ (t = k + j ∧ condB v d u t = true) := fun h => by rw [h.1, hc] at h; cases h.2
      simp [canK, h8, key, this]
    · simp [canK, h8]

theorem canK_next {v d : Int} {u : Tw} {r : List Tw} {k j : Nat} (h : canS v d r k → j = u.dh.toNat + 1) : canK v d u r k j = canK v d u r (k + 1) u.dl.toNat := by
  unfold canK
  apply List.map_congr_left
  intro t _
  congr 1
  refine propext ?_
  unfold canP
  constructor
  · rintro ⟨h1, ⟨s, h2, h3⟩ | ⟨h2, h3, h4⟩⟩
    · exact ⟨h1, .inl ⟨s, by omega, h3⟩⟩
    · have := h h2
      exact ⟨h1, .inl ⟨k, by omega, h2, h3, by omega⟩⟩
  · rintro ⟨h1, ⟨s, h2, h3⟩ | ⟨h2, h3, h4⟩⟩
    · refine ⟨h1, ?_⟩
      by_cases e : s = k
      · subst e
        have := h h3.1
        exact .inr ⟨h3.1, h3.2.1, by omega⟩
      · exact .inl ⟨s, by omega, h3⟩
    · omega

theorem canK_end {v d : Int} {u : Tw} {r : List Tw} (hr : ∀ x ∈ r, x.ok) (hl : r.length ≤ 8) : canK v d u r 801 u.dl.toNat = canR v d (u :: r) := by
  unfold canK canR
  apply List.map_congr_left
  intro t _
  congr 1
  refine propext ?_
  unfold canP
  constructor
  · rintro ⟨h1, ⟨s, h2, h3⟩ | ⟨h2, h3, h4⟩⟩
    · exact ⟨h1, s, h3⟩
    · omega
  · rintro ⟨h1, s, h3⟩
    have := canS_le hr h3.1
    exact ⟨h1, .inl ⟨s, by omega, h3⟩⟩

theorem canR_nil (v d : Int) : (List.replicate 801 false).set 0 true = canR v d [] := by
  apply List.ext_getElem?
  intro t
  rw [List.getElem?_set]
  by_cases ht : t < 801
  · by_cases e : 0 = t
    · subst e
      simp [-List.reduceReplicate, canR, canS]
    · rw [if_neg e]
      simp [-List.reduceReplicate, canR, canS, ht, List.getElem?_replicate]
      omega
  · rw [List.getElem?_eq_none (l := canR v d []) (by simp [canR]; omega)]
    rw [if_neg (by omega), List.getElem?_eq_none (by simp [-List.reduceReplicate]; omega)]

end Go.Proofs.Ytpfbpelkodlljaa
