/- A part of a proof: the symbolic walk and what it shows of single functions. -/
import Derived.Test.YtcnlbnccbnapbaaDoorSqH
import Derived.Test.YtcnlbnccbnapbaaDoorSpT
set_option linter.all false
namespace Go.Proofs.YtcnlbnccbnapbaaDoor
open Go.RowKit Go.SX
set_option maxRecDepth 10000
set_option maxHeartbeats 4000000
set_option linter.unusedSimpArgs false
set_option linter.unusedVariables false

/-! ### Reaching, and what Go and Round say: plain -/

theorem now_setN {c : Cht} (hok : c.ok) {b : Cls} {k t : Nat} (hk : k < c.depth.length) (hc : canB c b t k = true) : ∀ i x, x < c.depth.length → nowB c b k t i x = true → (setN c b.draught k t i).getD x false = true
  | 0, x, hx, h => by
    rw [nowB, decide_eq_true_eq] at h
    subst h
    unfold canB at hc
    rw [Bool.and_eq_true] at hc
    rw [setN, List.getD_eq_getElem?_getD, List.getElem?_set, if_pos rfl, if_pos (by rw [List.length_replicate]; exact hx), Option.getD_some]
    exact hc.1
  | i + 1, x, hx, h => by
    rw [nowB, Bool.and_eq_true, List.any_eq_true] at h
    obtain ⟨h1, y, hy, h2⟩ := h
    rw [Bool.and_eq_true, List.contains_iff_mem] at h2
    have hyl := List.mem_range.1 hy
    obtain ⟨_, _, _, _, hlen⟩ := hok.dims
    rw [setN_succ c hok _ _ _ _ _ hx]
    unfold canB at h1
    rw [Bool.and_eq_true] at h1
    exact ⟨h1.1, y, nb_symm (by rw [← hlen]; exact hyl) h2.2, now_setN hok hk hc i y hyl h2.1⟩

theorem outV_get (c : Cht) (b : Cls) (k t x : Nat) : ∀ m, (∃ i, i < m ∧ nowB c b k t i x = true ∧ outV c b k t m x = ((t + i : Nat) : Int)) ∨ outV c b k t m x = -1
  | 0 => .inr rfl
  | m + 1 => by
    rw [outV]
    split
    · rename_i h
      exact .inl ⟨m, by omega, h.2, rfl⟩
    · rcases outV_get c b k t x m with ⟨i, h1, h2, h3⟩ | h
      · exact .inl ⟨i, by omega, h2, h3⟩
      · exact .inr h

/-- Reach is not before Arrive. -/
theorem out_arr {c : Cht} (hok : c.ok) {b : Cls} {k t : Nat} (hk : k < c.depth.length) (hc : canB c b t k = true) {x : Nat} (hx : x < c.depth.length) {m : Nat} (h : 0 ≤ outV c b k t m x) :
    0 ≤ (arrL c b.draught k t m).getD x 0 ∧ (arrL c b.draught k t m).getD x 0 ≤ outV c b k t m x := by
  rcases outV_get c b k t x m with ⟨i, h1, h2, h3⟩ | h1
  · have h4 := now_setN hok hk hc i x hx h2
    rcases arrL_get c b.draught k t x hx m with ⟨j, g1, g2, g3, g4⟩ | ⟨g1, _⟩
    · rw [g4, h3]
      refine ⟨by omega, ?_⟩
      by_cases hj : i < j
      · rw [g3 i hj] at h4
        cases h4
      · omega
    · rw [g1 i h1] at h4
      cases h4
  · omega

theorem Vg.Ans.uniq {g : Vg} {rdy : Nat → Bool} {f w1 w2 : Int} (h1 : g.Ans rdy f w1) (h2 : g.Ans rdy f w2) : w1 = w2 := by
  have hb : ∀ {m m' B B'}, g.Best rdy m B → g.Best rdy m' B' → B = B' := fun a b => Int.le_antisymm (a.least _ _ b.lt b.isr b.r).1 (b.least _ _ a.lt a.isr a.r).1
  have hn : ∀ {m B}, g.None rdy → g.Best rdy m B → False := fun a b => a _ _ b.lt b.isr b.r
  rcases h1 with (⟨a1, a2⟩ | ⟨a2, ⟨a1, a3⟩ | ⟨a3, ⟨a1, a4⟩ | ⟨a1, m, B, a4, a5⟩⟩⟩) | ⟨a1, a2, a3, m, B, a4, a5⟩ <;>
    rcases h2 with (⟨b1, b2⟩ | ⟨b2, ⟨b1, b3⟩ | ⟨b3, ⟨b1, b4⟩ | ⟨b1, m', B', b4, b5⟩⟩⟩) | ⟨b1, b2, b3, m', B', b4, b5⟩ <;>
    first
    | (rw [a1, b1]; done)
    | (rw [a2] at b2; cases b2; done)
    | (exfalso; omega)
    | exact (hn a4 b4).elim
    | exact (hn b4 a4).elim
    | (exfalso; have := hb a4 b4; omega)

/-- What an answer says of the tick and of the reach. -/
theorem Vg.Ans.one {g : Vg} {rdy : Nat → Bool} {f w : Int} (h : g.Ans rdy f w) : (w = 1 ↔ rdy g.t = false) ∧ (rdy g.t = true → (w = 2 ↔ g.near < 0)) := by
  rcases h with (⟨a1, a2⟩ | ⟨a2, ⟨a1, a3⟩ | ⟨a3, ⟨a1, _⟩ | ⟨a1, _⟩⟩⟩) | ⟨a1, a2, a3, _⟩ <;> rw [a2] <;> simp <;> omega

theorem GoP.ans {c : Cht} {b : Cls} {r : Rmp} {t f tc ts : Int} {q : Value} {N : List HO} (he : goE c b r t f tc ts = 0) (h : GoP c b r t f tc ts q N) : ∃ why a n cp B, q = .tuple #[I why, .agg #[.slice a n cp, I B], I 0] ∧ (Vg.of c b r t tc ts).Ans (rdyB c b r) f why := by
  rcases h with ⟨h, _⟩ | ⟨_, ⟨why, rfl, h⟩ | ⟨k1, k2, m, B, L, x, k3, k4, k5, k6, rfl, k7⟩⟩
  · exact absurd he h
  · exact ⟨why, _, _, _, _, rfl, .inl h⟩
  · obtain ⟨ax, cx, rfl⟩ := k7.shape
    exact ⟨0, _, _, _, _, rfl, .inr ⟨rfl, k1, k2, m, B, k3, k6⟩⟩

end Go.Proofs.YtcnlbnccbnapbaaDoor
