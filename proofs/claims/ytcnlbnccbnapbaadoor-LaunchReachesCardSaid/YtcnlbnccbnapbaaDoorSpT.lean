/- A part of a proof: the symbolic walk and what it shows of single functions. -/
import Derived.Test.YtcnlbnccbnapbaaDoorP8
set_option linter.all false
namespace Go.Proofs.YtcnlbnccbnapbaaDoor
open Go.RowKit Go.SX
set_option maxRecDepth 10000
set_option maxHeartbeats 0
set_option linter.unusedSimpArgs false
set_option linter.unusedVariables false

/-! ### An easier call, plain -/

theorem outV_iff (c : Cht) (b : Cls) (k t x : Nat) : ∀ m, 0 ≤ outV c b k t m x ↔ ∃ i, i < m ∧ nowB c b k t i x = true
  | 0 => ⟨fun h => by unfold outV at h; omega, fun ⟨i, h, _⟩ => by omega⟩
  | m + 1 => by
    have ih := outV_iff c b k t x m
    rw [outV]
    split
    · rename_i h
      exact ⟨fun _ => ⟨m, by omega, h.2⟩, fun _ => by omega⟩
    · rename_i h
      rw [ih]
      constructor
      · rintro ⟨i, h1, h2⟩
        exact ⟨i, by omega, h2⟩
      · rintro ⟨i, h1, h2⟩
        by_cases hi : i = m
        · subst hi
          have h3 : ¬ outV c b k t i x < 0 := fun h4 => h ⟨h4, h2⟩
          exact ih.1 (by omega)
        · exact ⟨i, by omega, h2⟩

/-- A boat that stands more. -/
structure Lax (b b' : Cls) : Prop where
  draught : b'.draught = b.draught
  move : b'.move = b.move
  idle : b'.idle = b.idle
  seas : b.seas ≤ b'.seas

theorem Lax.can {b b' : Cls} (h : Lax b b') {c : Cht} {t k : Nat} (hc : canB c b t k = true) : canB c b' t k = true := by
  unfold canB at hc ⊢
  rw [Bool.and_eq_true, decide_eq_true_eq, decide_eq_true_eq] at hc ⊢
  rw [h.draught]
  exact ⟨hc.1, Int.le_trans hc.2 h.seas⟩

theorem Lax.rdy {b b' : Cls} (h : Lax b b') {c : Cht} {r : Rmp} {t : Nat} (hc : rdyB c b r t = true) : rdyB c b' r t = true := by
  unfold rdyB at hc ⊢
  rw [Bool.and_eq_true, decide_eq_true_eq] at hc ⊢
  have : r.own b' = r.own b := by unfold Rmp.own; rw [h.draught]
  rw [this]
  exact ⟨hc.1, Int.le_trans hc.2 h.seas⟩

theorem Lax.now {b b' : Cls} (h : Lax b b') {c : Cht} {k t : Nat} : ∀ i x, nowB c b k t i x = true → nowB c b' k t i x = true
  | 0, x, hx => hx
  | i + 1, x, hx => by
    rw [nowB, Bool.and_eq_true, List.any_eq_true] at hx ⊢
    obtain ⟨h1, y, hy, h2⟩ := hx
    rw [Bool.and_eq_true] at h2
    exact ⟨h.can h1, y, hy, by rw [Bool.and_eq_true]; exact ⟨h.now i y h2.1, h2.2⟩⟩

theorem Lax.run {b b' : Cls} (h : Lax b b') {c : Cht} {k t tc ts ts' : Nat} (hts : ts' ≤ ts) {i s x : Nat} {B : Int} (hr : (Vg.mk c b k t tc ts).R i s x B) : ∃ s', (Vg.mk c b' k t tc ts').R i s' x B ∧ (s' = ts' + 1 ∨ s' = s ∧ s ≤ ts') := by
  have key : ∀ y s s', (s' = ts' + 1 ∨ s' = s ∧ s ≤ ts') → ((Vg.mk c b' k t tc ts').st y s' = ts' + 1 ∨ (Vg.mk c b' k t tc ts').st y s' = (Vg.mk c b k t tc ts).st y s ∧ (Vg.mk c b k t tc ts).st y s ≤ ts') := by
    intro y s s' hs
    unfold Vg.st
    simp only []
    repeat' split
    all_goals omega
  have wge : ∀ x y, (Vg.mk c b' k t tc ts').wg x y = (Vg.mk c b k t tc ts).wg x y := fun x y => by
    unfold Vg.wg
    simp only [h.move, h.idle]
  induction hr with
  | zero => exact ⟨_, Vg.R.zero, key _ 0 0 (.inr ⟨rfl, Nat.zero_le _⟩)⟩
  | @step i s x y B _ hy hc ih =>
    obtain ⟨s', h1, h2⟩ := ih
    refine ⟨_, ?_, key y s s' h2⟩
    have := Vg.R.step h1 hy (h.can hc)
    rw [wge] at this
    exact this

theorem Lax.fin {b b' : Cls} (h : Lax b b') {c : Cht} {k t tc ts ts' : Nat} (hts : ts' ≤ ts) {i x : Nat} {B : Int} (hr : (Vg.mk c b k t tc ts).R i (ts + 1) x B) : (Vg.mk c b' k t tc ts').R i (ts' + 1) x B := by
  obtain ⟨s', h1, h2⟩ := h.run hts hr
  have : s' = ts' + 1 := by omega
  rwa [this] at h1

theorem Vg.Why.ne {g : Vg} {rdy : Nat → Bool} {f why : Int} (h : g.Why rdy f why) : why ≠ 0 := by
  rcases h with ⟨h, _⟩ | ⟨_, ⟨h, _⟩ | ⟨_, ⟨h, _⟩ | ⟨h, _⟩⟩⟩ <;> omega

/-- With an easier call there is no reason against it, and a voyage does not burn more. -/
theorem easier {c : Cht} {b b' : Cls} (h : Lax b b') (hres : b'.reserve ≤ b.reserve) {r : Rmp} {k t tc ts ts' : Nat} (hts : ts' ≤ ts) {f f' : Int} (hf : f ≤ f') (h1 : rdyB c b r t = true) (h2 : 0 ≤ (Vg.mk c b k t tc ts).near) {m : Nat} {B : Int} (hb : (Vg.mk c b k t tc ts).Best (rdyB c b r) m B) (hB : B + b.reserve ≤ f) :
    (∀ why, ¬ (Vg.mk c b' k t tc ts').Why (rdyB c b' r) f' why) ∧ ∀ m' B', (Vg.mk c b' k t tc ts').Best (rdyB c b' r) m' B' → B' ≤ B := by
  have hle : ∀ m' B', (Vg.mk c b' k t tc ts').Best (rdyB c b' r) m' B' → B' ≤ B := fun m' B' hb' => (hb'.least m B hb.lt (h.rdy hb.isr) (h.fin hts hb.r)).1
  refine ⟨fun why hw => ?_, hle⟩
  rcases hw with ⟨_, hw⟩ | ⟨_, ⟨_, hw⟩ | ⟨_, ⟨_, hw⟩ | ⟨_, m', B', hb', hw⟩⟩⟩
  · rw [h.rdy h1] at hw
    cases hw
  · obtain ⟨i, h3, h4⟩ := (outV_iff _ _ _ _ _ _).1 h2
    have := (outV_iff c b' k t tc (c.tide.length - t)).2 ⟨i, h3, h.now i _ h4⟩
    have h5 : outV c b' k t (c.tide.length - t) tc < 0 := hw
    omega
  · exact hw m B hb.lt (h.rdy hb.isr) (h.fin hts hb.r)
  · have := hle m' B' hb'
    have h6 : B' + b'.reserve > f' := hw
    omega

end Go.Proofs.YtcnlbnccbnapbaaDoor
