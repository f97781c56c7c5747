/- A part of a proof: the symbolic walk and what it shows of single functions. -/
import Derived.Test.YtcnlbnccbnapbaaDoorSsB
import Derived.Test.YtcnlbnccbnapbaaDoorP6
set_option linter.all false
namespace Go.Proofs.YtcnlbnccbnapbaaDoor
open Go.RowKit Go.SX
set_option maxRecDepth 10000
set_option maxHeartbeats 4000000
set_option linter.unusedSimpArgs false
set_option linter.unusedVariables false
def nv40 : Int := 1099511627776
def Vg.Fin (g : Vg) (i x : Nat) (Q : List Int) : Prop := Q.length = g.ts + 2 ∧ (∀ s, s < g.ts + 2 → Q.getD s 0 = nv40 ∨ g.R i s x (Q.getD s 0)) ∧ ∀ s B, g.R i s x B → Q.getD s 0 ≤ B
def Vg.TabI (g : Vg) (i : Nat) (R : List (List Int)) : Prop := R.length = g.c.depth.length ∧ ∀ x, x < g.c.depth.length → g.Fin i x (R.getD x [])
def ei (R : List (List Int)) (x s : Nat) : Int := (R.getD x []).getD s 0
def Vg.voidI (g : Vg) : List Int := List.replicate (g.ts + 2) nv40
theorem Vg.voidI_at (g : Vg) {s : Nat} (hs : s < g.ts + 2) : g.voidI.getD s 0 = nv40 := by
  unfold Vg.voidI
  rw [List.getD_eq_getElem?_getD, List.getElem?_replicate, if_pos hs]
  rfl
theorem Vg.Fin.void {g : Vg} {i x : Nat} (h : ∀ s B, ¬ g.R i s x B) : g.Fin i x g.voidI := ⟨List.length_replicate, fun s hs => .inl (g.voidI_at hs), fun s B hr => absurd hr (h s B)⟩
theorem Vg.R_zero {g : Vg} {s x : Nat} {B : Int} (h : g.R 0 s x B) : x = g.k ∧ s = g.st g.k 0 ∧ B = 0 := by
  cases h with
  | zero => exact ⟨rfl, rfl, rfl⟩
theorem Vg.Fin.start {g : Vg} : g.Fin 0 g.k (g.voidI.set (g.st g.k 0) 0) := by
  have hst := g.st_le (y := g.k) (s := 0) (by omega)
  have hl : g.st g.k 0 < g.voidI.length := by unfold Vg.voidI; rw [List.length_replicate]; exact hst
  refine ⟨by rw [List.length_set]; exact List.length_replicate, fun s hs => ?_, fun s B hr => ?_⟩
  · rw [getD_set hl]
    by_cases e : g.st g.k 0 = s
    · rw [if_pos e, ← e]
      exact .inr Vg.R.zero
    · rw [if_neg e]
      exact .inl (g.voidI_at hs)
  · obtain ⟨_, rfl, rfl⟩ := Vg.R_zero hr
    rw [getD_set hl, if_pos rfl]
    exact Int.le_refl _
structure Vg.RowI (g : Vg) (i : Nat) (R : List (List Int)) (y : Nat) (d : Nat → Nat → Prop) (Q : List Int) : Prop where
  len : Q.length = g.ts + 2
  att : ∀ u, u < g.ts + 2 → Q.getD u 0 = nv40 ∨ ∃ x s, x ∈ nbL g.c.W g.c.H y ∧ s < g.ts + 2 ∧ ei R x s ≠ nv40 ∧ u = g.st y s ∧ Q.getD u 0 = ei R x s + g.wg x y
  low : ∀ j s x, d j s → s < g.ts + 2 → (nbL g.c.W g.c.H y)[j]? = some x → ei R x s ≠ nv40 → Q.getD (g.st y s) 0 ≤ ei R x s + g.wg x y
  top : ∀ u, u < g.ts + 2 → Q.getD u 0 ≤ nv40
theorem Vg.RowI.init (g : Vg) (i : Nat) (R : List (List Int)) (y : Nat) : g.RowI i R y (fun _ _ => False) g.voidI :=
  ⟨List.length_replicate, fun u hu => .inl (g.voidI_at hu), fun _ _ _ h => h.elim, fun u hu => by rw [g.voidI_at hu]; exact Int.le_refl _⟩
theorem Vg.RowI.mono {g : Vg} {i : Nat} {R : List (List Int)} {y : Nat} {d d' : Nat → Nat → Prop} {Q : List Int} (h : g.RowI i R y d Q) (hd : ∀ j s, d' j s → s < g.ts + 2 → j < (nbL g.c.W g.c.H y).length → d j s) : g.RowI i R y d' Q :=
  ⟨h.len, h.att, fun j s x h1 h2 h3 h4 => h.low j s x (hd j s h1 h2 (List.getElem?_eq_some_iff.1 h3).1) h2 h3 h4, h.top⟩
theorem Vg.TabI.at {g : Vg} (hg : g.Ok) {i : Nat} {R : List (List Int)} (h : g.TabI i R) {x s : Nat} (hx : x < g.c.depth.length) (hs : s < g.ts + 2) : ei R x s = nv40 ∨ 0 ≤ ei R x s ∧ ei R x s ≤ 100 * i := by
  rcases (h.2 x hx).2.1 s hs with h1 | h1
  · exact .inl h1
  · have := g.R_bd hg h1
    exact .inr ⟨this.2.2.1, this.2.2.2⟩
theorem Vg.RowI.step {g : Vg} (hg : g.Ok) {i : Nat} {R : List (List Int)} (hT : g.TabI i R) (hi : i ≤ 100) {y : Nat} (hyn : y < g.c.depth.length) {d : Nat → Nat → Prop} {Q : List Int} (h : g.RowI i R y d Q) {J S X : Nat} (hS : S < g.ts + 2) (hX : (nbL g.c.W g.c.H y)[J]? = some X) :
    g.RowI i R y (fun j s => d j s ∨ j = J ∧ s = S) (Q.set (g.st y S) (min (Q.getD (g.st y S) 0) (ei R X S + g.wg X y))) := by
  have hst := g.st_le (y := y) hS
  have hlen := h.len
  have hXm := List.mem_of_getElem? hX
  have hXn := nb_lt hg hyn hXm
  have hw := g.wg_bd hg X y
  have hat := hT.at hg hXn hS
  have htop := h.top (g.st y S) hst
  have hgd := fun u => getD_set (l := Q) (i := g.st y S) (j := u) (x := min (Q.getD (g.st y S) 0) (ei R X S + g.wg X y)) (d := (0 : Int)) (by omega)
  refine ⟨by rw [List.length_set]; exact hlen, fun u hu => ?_, fun j s x h1 h2 h3 h4 => ?_, fun u hu => ?_⟩
  · rw [hgd]
    by_cases e : g.st y S = u
    · rw [if_pos e]
      by_cases hlt : ei R X S + g.wg X y < Q.getD (g.st y S) 0
      · refine .inr ⟨X, S, hXm, hS, fun h0 => by omega, e.symm, by omega⟩
      · rw [show min (Q.getD (g.st y S) 0) (ei R X S + g.wg X y) = Q.getD (g.st y S) 0 by omega, e]
        exact h.att u hu
    · rw [if_neg e]
      exact h.att u hu
  · rw [hgd]
    by_cases e : g.st y S = g.st y s
    · rw [if_pos e]
      rcases h1 with h1 | ⟨rfl, rfl⟩
      · have := h.low j s x h1 h2 h3 h4
        rw [← e] at this
        omega
      · rw [hX] at h3
        cases h3
        omega
    · rw [if_neg e]
      rcases h1 with h1 | ⟨rfl, rfl⟩
      · exact h.low j s x h1 h2 h3 h4
      · exact absurd rfl e
  · rw [hgd]
    split
    · omega
    · exact h.top u hu
theorem Vg.RowI.fin {g : Vg} (hg : g.Ok) {i : Nat} {R : List (List Int)} (hT : g.TabI i R) (hi : i ≤ 100) {y : Nat} (hyn : y < g.c.depth.length) (hc : canB g.c g.b (g.t + i + 1) y = true) {d : Nat → Nat → Prop} {Q : List Int} (h : g.RowI i R y d Q) (hd : ∀ j s, j < (nbL g.c.W g.c.H y).length → s < g.ts + 2 → d j s) : g.Fin (i + 1) y Q := by
  obtain ⟨_, _, _, _, hlen⟩ := hg.ok.dims
  refine ⟨h.len, fun u hu => ?_, fun s B hr => ?_⟩
  · rcases h.att u hu with h1 | ⟨x, s, hx, hs, h0, rfl, h2⟩
    · exact .inl h1
    · have hxn := nb_lt hg hyn hx
      rcases (hT.2 x hxn).2.1 s hs with h3 | h3
      · exact absurd h3 h0
      · rw [h2]
        exact .inr (Vg.R.step h3 (nb_symm (by rw [← hlen]; exact hyn) hx) hc)
  · cases hr with
    | @step _ s0 x0 _ B0 hr hy _ =>
      have hb := g.R_bd hg hr
      have hx := nb_symm (by rw [← hlen]; exact hb.2.1) hy
      obtain ⟨j, hj⟩ := List.getElem?_of_mem hx
      have hle := (hT.2 x0 hb.2.1).2.2 s0 B0 hr
      have hne : ei R x0 s0 ≠ nv40 := fun h0 => by
        unfold ei at h0
        unfold nv40 at h0
        omega
      have := h.low j s0 x0 (hd j s0 (List.getElem?_eq_some_iff.1 hj).1 hb.1) hb.1 hj hne
      unfold ei at this
      omega
theorem Vg.no_can {g : Vg} {i s y : Nat} {B : Int} (hc : canB g.c g.b (g.t + i + 1) y = false) : ¬ g.R (i + 1) s y B := fun hr => by
  cases hr with
  | @step _ s0 x0 _ B0 _ _ h => rw [hc] at h; cases h
def FI (m : Nat) (aa : List Addr) (R : List (List Int)) : List HO := List.zipWith (fun a l => HO.row (.slice (some a) m m) 3 1 (ints l)) aa R
theorem FI_append (n : Nat) (aa bs : List Addr) (R S : List (List Int)) (h : aa.length = R.length) : FI n (aa ++ bs) (R ++ S) = FI n aa R ++ FI n bs S := by
  unfold FI
  exact List.zipWith_append h
theorem FI_mem {n : Nat} {aa : List Addr} {R : List (List Int)} {s : Nat} {a : Addr} {l : List Int} (ha : aa[s]? = some a) (hl : R[s]? = some l) : HO.row (.slice (some a) n n) 3 1 (ints l) ∈ FI n aa R := by
  unfold FI
  refine List.mem_of_getElem? (i := s) ?_
  rw [List.getElem?_zipWith, ha, hl]
def LogI (g : Vg) (N : List HO) (qs : List (Option Addr × Nat × Nat)) (tabs : List (List (List Int))) : Prop := qs.length = tabs.length ∧ ∀ (i : Nat) R, tabs[i]? = some R → ∃ b aa, qs[i]? = some (some ⟨b, 0, none⟩, g.c.depth.length, g.c.depth.length) ∧ aa.length = g.c.depth.length ∧ HO.row (.slice (some ⟨b, 0, none⟩) g.c.depth.length g.c.depth.length) 22 1 (cat slq (aa.map (aq (g.ts + 2)))) ∈ N ∧ ∀ h ∈ FI (g.ts + 2) aa R, h ∈ N
theorem LogI.mono {g : Vg} {N N' : List HO} {qs : List (Option Addr × Nat × Nat)} {tabs : List (List (List Int))} (h : LogI g N qs tabs) (hm : ∀ h ∈ N, h ∈ N') : LogI g N' qs tabs :=
  ⟨h.1, fun i R hR => by
    obtain ⟨b, aa, h1, h2, h3, h4⟩ := h.2 i R hR
    exact ⟨b, aa, h1, h2, hm _ h3, fun x hx => hm _ (h4 x hx)⟩⟩
theorem LogI.snoc {g : Vg} {N : List HO} {qs : List (Option Addr × Nat × Nat)} {tabs : List (List (List Int))} (h : LogI g N qs tabs) {b : Nat} {aa : List Addr} {R : List (List Int)} (ha : aa.length = g.c.depth.length) (h1 : HO.row (.slice (some ⟨b, 0, none⟩) g.c.depth.length g.c.depth.length) 22 1 (cat slq (aa.map (aq (g.ts + 2)))) ∈ N) (h2 : ∀ h ∈ FI (g.ts + 2) aa R, h ∈ N) : LogI g N (qs ++ [(some ⟨b, 0, none⟩, g.c.depth.length, g.c.depth.length)]) (tabs ++ [R]) := by
  refine ⟨by rw [List.length_append, List.length_append, h.1]; rfl, fun i R' hR => ?_⟩
  by_cases hi : i < tabs.length
  · rw [List.getElem?_append_left hi] at hR
    obtain ⟨b', aa', k1, k2, k3, k4⟩ := h.2 i R' hR
    exact ⟨b', aa', by rw [List.getElem?_append_left (by rw [h.1]; exact hi)]; exact k1, k2, k3, k4⟩
  · have hlt := (List.getElem?_eq_some_iff.1 hR).1
    rw [List.length_append, List.length_singleton] at hlt
    have hie : i = tabs.length := by omega
    subst hie
    rw [List.getElem?_append_right (Nat.le_refl _), Nat.sub_self] at hR
    cases hR
    exact ⟨b, aa, by rw [List.getElem?_append_right (by rw [h.1]; exact Nat.le_refl _), h.1, Nat.sub_self]; rfl, ha, h1, h2⟩
end Go.Proofs.YtcnlbnccbnapbaaDoor
