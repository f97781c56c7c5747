/- A part of a proof: the symbolic walk and what it shows of single functions. -/
import Derived.Test.YtcnlbnccbnapbaaDoorSqH
import Derived.Test.YtcnlbnccbnapbaaDoorSpT
set_option linter.all false
namespace Go.Proofs.YtcnlbnccbnapbaaDoor
open Go.RowKit Go.SX
set_option maxRecDepth 10000
set_option maxHeartbeats 4000000
set_option linter.unusedSimpArgs false
set_option linter.unusedVariables false
theorem Vg.Ans.uniq {g : Vg} {rdy : Nat → Bool} {f w1 w2 : Int} (h1 : g.Ans rdy f w1) (h2 : g.Ans rdy f w2) : w1 = w2 := by
  have hb : ∀ {m m' B B'}, g.Best rdy m B → g.Best rdy m' B' → B = B' := fun a b => Int.le_antisymm (a.least _ _ b.lt b.isr b.r).1 (b.least _ _ a.lt a.isr a.r).1
  have hn : ∀ {m B}, g.None rdy → g.Best rdy m B → False := fun a b => a _ _ b.lt b.isr b.r
  rcases h1 with (⟨a1, a2⟩ | ⟨a2, ⟨a1, a3⟩ | ⟨a3, ⟨a1, a4⟩ | ⟨a1, m, B, a4, a5⟩⟩⟩) | ⟨a1, a2, a3, m, B, a4, a5⟩ <;>
    rcases h2 with (⟨b1, b2⟩ | ⟨b2, ⟨b1, b3⟩ | ⟨b3, ⟨b1, b4⟩ | ⟨b1, m', B', b4, b5⟩⟩⟩) | ⟨b1, b2, b3, m', B', b4, b5⟩ <;>
    first
    | (rw [a1, b1]; done)
    | (rw [a2] at b2; cases b2; done)
    | (exfalso; omega)
    | exact (hn a4 b4).elim
    | exact (hn b4 a4).elim
    | (exfalso; have := hb a4 b4; omega)
theorem GoP.ans {c : Cht} {b : Cls} {r : Rmp} {t f tc ts : Int} {q : Value} {N : List HO} (he : goE c b r t f tc ts = 0) (h : GoP c b r t f tc ts q N) : ∃ why a n cp B, q = .tuple #[I why, .agg #[.slice a n cp, I B], I 0] ∧ (Vg.of c b r t tc ts).Ans (rdyB c b r) f why := by
  rcases h with ⟨h, _⟩ | ⟨_, ⟨why, rfl, h⟩ | ⟨k1, k2, m, B, L, x, k3, k4, k5, k6, rfl, k7⟩⟩
  · exact absurd he h
  · exact ⟨why, _, _, _, _, rfl, .inl h⟩
  · obtain ⟨ax, cx, rfl⟩ := k7.shape
    exact ⟨0, _, _, _, _, rfl, .inr ⟨rfl, k1, k2, m, B, k3, k6⟩⟩
end Go.Proofs.YtcnlbnccbnapbaaDoor
