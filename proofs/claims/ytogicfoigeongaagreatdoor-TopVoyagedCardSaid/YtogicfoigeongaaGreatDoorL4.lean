/- Parts of a proof: the symbolic walk and what it shows of single functions. -/
import Derived.Test.YtogicfoigeongaaGreatDoorC5
import Derived.Test.YtogicfoigeongaaGreatDoorL3
import Derived.Test.YtogicfoigeongaaGreatDoorC1
set_option linter.all false
namespace Go.Proofs.YtogicfoigeongaaGreatDoor
open Go.RowKit Go.SX
set_option maxRecDepth 10000
set_option maxHeartbeats 0
set_option linter.unusedSimpArgs false
set_option linter.unusedVariables false
def RtP (c : Cht) (g : Int) (A F G : Nat) (p : List Nat) : Prop := isPass c g A p ∧ p.getD 0 0 = F ∧ p.getD (p.length - 1) 0 = G ∧ ∀ i, Rr c g A F i G → p.length - 1 ≤ i
theorem RtP.len {c : Cht} {g : Int} {A F G : Nat} {p : List Nat} (h : RtP c g A F G p) : 0 < p.length ∧ A + p.length ≤ c.tide.length := ⟨List.length_pos_iff.2 h.1.1, h.1.2.1⟩
end Go.Proofs.YtogicfoigeongaaGreatDoor

namespace Go.Proofs.YtogicfoigeongaaGreatDoor
open Go.RowKit Go.SX
set_option maxRecDepth 10000
set_option maxHeartbeats 0
set_option linter.unusedSimpArgs false
set_option linter.unusedVariables false
def RowT (c : Cht) (g : Int) (A F i : Nat) (row : List Int) : Prop := row.length = c.depth.length ∧ ∀ x, x < c.depth.length → (lv row x = -1 ∧ ¬ Rr c g A F i x) ∨ (Rr c g A F i x ∧ ∃ y : Nat, lv row x = y ∧ (0 < i → y ∈ nbL c.W c.H x ∧ Rr c g A F (i - 1) y))
theorem RowT.neg {c : Cht} {g : Int} {A F i : Nat} {row : List Int} (h : RowT c g A F i row) {x : Nat} (hx : x < c.depth.length) (hn : lv row x < 0) : ¬ Rr c g A F i x := by
  rcases h.2 x hx with ⟨_, h1⟩ | ⟨_, y, h1, _⟩
  · exact h1
  · omega
theorem RowT.pos {c : Cht} {g : Int} {A F i : Nat} {row : List Int} (h : RowT c g A F i row) {x : Nat} (hx : x < c.depth.length) (hn : ¬ lv row x < 0) : Rr c g A F i x ∧ ∃ y : Nat, lv row x = y ∧ (0 < i → y ∈ nbL c.W c.H x ∧ Rr c g A F (i - 1) y) := by
  rcases h.2 x hx with ⟨h1, _⟩ | h1
  · omega
  · exact h1
def BkI (c : Cht) (g : Int) (A F G K : Nat) (ps : List Nat) : Prop :=
  0 < ps.length ∧ ps.length ≤ K ∧ ps.getD 0 0 = G ∧ (∀ j, j < ps.length → ps.getD j 0 < c.depth.length ∧ Rr c g A F (K - 1 - j) (ps.getD j 0)) ∧ ∀ j, j + 1 < ps.length → ps.getD (j + 1) 0 ∈ nbL c.W c.H (ps.getD j 0)
theorem getD_rev (ps : List Nat) {i : Nat} (hi : i < ps.length) : ps.reverse.getD i 0 = ps.getD (ps.length - 1 - i) 0 := by
  rw [List.getD_eq_getElem?_getD, List.getElem?_reverse hi, ← List.getD_eq_getElem?_getD]
theorem BkI.done {c : Cht} (hok : c.ok) {g : Int} {A F G K : Nat} {ps : List Nat} (h : BkI c g A F G K ps) (hK : ps.length = K) (hT : A + K ≤ c.tide.length) (hmin : ∀ i, i + 1 < K → ¬ Rr c g A F i G) : RtP c g A F G ps.reverse := by
  obtain ⟨h1, h2, h3, h4, h5⟩ := h
  obtain ⟨eW, eH, hW, hH, hlen⟩ := hok.dims
  refine ⟨⟨fun e => by rw [List.reverse_eq_nil_iff] at e; rw [e] at h1; simp at h1, by rw [List.length_reverse]; omega, fun i hi => ?_⟩, ?_, ?_, fun i hi => ?_⟩
  · rw [List.length_reverse] at hi
    rw [getD_rev _ hi]
    obtain ⟨h6, h7⟩ := h4 (ps.length - 1 - i) (by omega)
    rw [show K - 1 - (ps.length - 1 - i) = i by omega] at h7
    refine ⟨h6, Rr_flt h7, fun h0 => ?_⟩
    rw [getD_rev _ (by omega), show ps.length - 1 - (i - 1) = ps.length - 1 - i + 1 by omega]
    exact nb_symm (by omega) (h5 (ps.length - 1 - i) (by omega))
  · rw [getD_rev _ (by omega), Nat.sub_zero]
    have h7 := (h4 (ps.length - 1) (by omega)).2
    rw [show K - 1 - (ps.length - 1) = 0 by omega] at h7
    exact h7.1
  · rw [List.length_reverse, getD_rev _ (by omega), Nat.sub_self, h3]
  · rw [List.length_reverse]
    refine Nat.le_of_not_lt fun hlt => ?_
    exact hmin i (by omega) hi
end Go.Proofs.YtogicfoigeongaaGreatDoor

namespace Go.Proofs.YtogicfoigeongaaGreatDoor
open Go.RowKit Go.SX
set_option maxRecDepth 10000
set_option maxHeartbeats 0
set_option linter.unusedSimpArgs false
set_option linter.unusedVariables false
def rvI (l X : List Int) (k : Nat) : Prop := X.length = l.length ∧ ∀ u, u < l.length → X.getD u 0 = if u < k ∨ l.length ≤ u + k then l.getD (l.length - 1 - u) 0 else l.getD u 0
theorem rvI.done {l X : List Int} {k : Nat} (h : rvI l X k) (hk : l.length ≤ 2 * k + 1) : X = l.reverse := by
  refine List.ext_getElem? fun u => ?_
  by_cases hu : u < l.length
  · have h1 := h.2 u hu
    rw [List.getD_eq_getElem?_getD, List.getElem?_eq_getElem (by rw [h.1]; exact hu)] at h1
    rw [List.getElem?_reverse hu, List.getElem?_eq_getElem (by rw [h.1]; exact hu), List.getElem?_eq_getElem (by omega)]
    simp only [Option.getD_some] at h1
    rw [h1]
    congr 1
    split
    · rw [List.getD_eq_getElem?_getD, List.getElem?_eq_getElem (by omega)]
      rfl
    · have : u = l.length - 1 - u := by omega
      rw [List.getD_eq_getElem?_getD]
      conv => lhs; rw [this]
      rw [List.getElem?_eq_getElem (by omega)]
      rfl
  · rw [List.getElem?_eq_none (by rw [h.1]; omega), List.getElem?_eq_none (by rw [List.length_reverse]; omega)]
theorem rvI.zero (l : List Int) : rvI l l 0 := ⟨rfl, fun u hu => by rw [if_neg (by omega)]⟩
theorem rvI.step {l X : List Int} {k : Nat} (h : rvI l X k) (hk : 2 * k + 1 < l.length) : rvI l ((X.set k (X.getD (l.length - 1 - k) 0)).set (l.length - 1 - k) (X.getD k 0)) (k + 1) := by
  obtain ⟨h1, h2⟩ := h
  refine ⟨by simp [h1], fun u hu => ?_⟩
  rw [List.getD_eq_getElem?_getD]
  have ha := h2 (l.length - 1 - k) (by omega)
  have hb := h2 k (by omega)
  rw [if_neg (by omega)] at ha hb
  by_cases hu1 : u = l.length - 1 - k
  · subst hu1
    rw [List.getElem?_set_self (by simp [h1]; omega), if_pos (by omega), Option.getD_some, hb, show l.length - 1 - (l.length - 1 - k) = k by omega]
  · rw [List.getElem?_set_ne (by omega)]
    by_cases hu2 : u = k
    · subst hu2
      rw [List.getElem?_set_self (by omega), if_pos (by omega), Option.getD_some, ha]
    · rw [List.getElem?_set_ne (by omega), ← List.getD_eq_getElem?_getD, h2 u hu]
      by_cases hc : u < k ∨ l.length ≤ u + k
      · rw [if_pos hc, if_pos (by omega)]
      · rw [if_neg hc, if_neg (by omega)]
end Go.Proofs.YtogicfoigeongaaGreatDoor

namespace Go.Proofs.YtogicfoigeongaaGreatDoor
open Go.RowKit Go.SX
set_option maxRecDepth 10000
set_option maxHeartbeats 0
set_option linter.unusedSimpArgs false
set_option linter.unusedVariables false
def FilR (c : Cht) (g : Int) (A F i x : Nat) (X : List Int) : Prop := X.length = c.depth.length ∧ (∀ z, z < x → z < c.depth.length → (lv X z = -1 ∧ ¬ Rr c g A F i z) ∨ (Rr c g A F i z ∧ ∃ y : Nat, lv X z = y ∧ (0 < i → y ∈ nbL c.W c.H z ∧ Rr c g A F (i - 1) y))) ∧ ∀ z, x ≤ z → z < c.depth.length → lv X z = -1
theorem FilR.zero (c : Cht) (g : Int) (A F i : Nat) : FilR c g A F i 0 (List.replicate c.depth.length (-1)) := by
  refine ⟨by simp, fun z h => by omega, fun z _ hz => ?_⟩
  unfold lv
  rw [List.getD_eq_getElem?_getD, List.getElem?_replicate, if_pos hz]
  rfl
theorem FilR.done {c : Cht} {g : Int} {A F i : Nat} {X : List Int} (h : FilR c g A F i c.depth.length X) : RowT c g A F i X := ⟨h.1, fun z hz => h.2.1 z hz hz⟩
theorem FilR.first {c : Cht} {g : Int} {A F : Nat} (hF : F < c.depth.length) : RowT c g A F 0 (if c.flt g A F then (List.replicate c.depth.length (-1)).set F (F : Int) else List.replicate c.depth.length (-1)) := by
  have h0 := FilR.zero c g A F 0
  refine ⟨by split <;> simp, fun x hx => ?_⟩
  by_cases hf : c.flt g A F = true
  · rw [if_pos hf, lv_set (by simp; exact hF)]
    by_cases e : x = F
    · subst e
      exact .inr ⟨⟨rfl, hf⟩, x, if_pos rfl, fun h => by omega⟩
    · rw [if_neg e]
      exact .inl ⟨h0.2.2 x (Nat.zero_le _) hx, fun h => e h.1⟩
  · rw [if_neg hf]
    exact .inl ⟨h0.2.2 x (Nat.zero_le _) hx, fun h => hf h.2⟩
end Go.Proofs.YtogicfoigeongaaGreatDoor

