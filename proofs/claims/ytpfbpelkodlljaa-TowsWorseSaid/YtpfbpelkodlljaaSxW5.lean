/- A part of a proof: the symbolic walk and what it shows of single functions. -/
import Derived.Test.YtpfbpelkodlljaaSxW4
set_option linter.all false
namespace Go.Proofs.Ytpfbpelkodlljaa
open Go.RowKit Go.SX
set_option maxRecDepth 4000
set_option maxHeartbeats 8000000
set_option linter.unusedSimpArgs false
set_option linter.unusedVariables false

/-! ### Poorer lines -/

/-- A unit made poorer. -/
def poor (xs xm xl xh : Int) (u : Tw) : Tw := ⟨max 1 (u.dl - xl), min 100 (u.dh + xh), u.len, min 20 (u.mass + xm), max 0 (u.str - xs)⟩

theorem poor_ok {xs xm xl xh : Int} (h1 : 0 ≤ xs) (h2 : 0 ≤ xm) (h3 : 0 ≤ xl) (h4 : 0 ≤ xh) {u : Tw} (hu : u.ok) : (poor xs xm xl xh u).ok := by
  unfold Tw.ok at hu ⊢
  unfold poor
  simp only []
  omega

theorem poor_okT {xs xm xl xh : Int} (h1 : 0 ≤ xs) (h2 : 0 ≤ xm) (h3 : 0 ≤ xl) (h4 : 0 ≤ xh) {us : List Tw} (h : okT us) : okT (us.map (poor xs xm xl xh)) := by
  refine ⟨by simpa using h.1, by simpa using h.2.1, fun u hu => ?_⟩
  obtain ⟨v, hv, rfl⟩ := List.mem_map.1 hu
  exact poor_ok h1 h2 h3 h4 (h.2.2 v hv)

theorem sum_le {α : Type} (f g : α → Int) : ∀ (l : List α), (∀ x ∈ l, f x ≤ g x) → (l.map f).sum ≤ (l.map g).sum
  | [], _ => by simp
  | x :: l, h => by
    have h1 := h x List.mem_cons_self
    have h2 := sum_le f g l fun y hy => h y (List.mem_cons_of_mem _ hy)
    simp only [List.map_cons, List.sum_cons]
    omega

theorem poor_sums {xs xm xl xh : Int} (h3 : 0 ≤ xl) (h4 : 0 ≤ xh) {us : List Tw} (h : ∀ u ∈ us, u.ok) (i : Nat) : loS (us.map (poor xs xm xl xh)) i ≤ loS us i ∧ hiS us i ≤ hiS (us.map (poor xs xm xl xh)) i := by
  unfold loS hiS
  rw [← List.map_drop, List.map_map, List.map_map]
  refine ⟨sum_le _ _ _ fun u hu => ?_, sum_le _ _ _ fun u hu => ?_⟩
  · have := h u (List.mem_of_mem_drop hu)
    unfold Tw.ok at this
    simp only [Function.comp, poor]
    omega
  · have := h u (List.mem_of_mem_drop hu)
    unfold Tw.ok at this
    simp only [Function.comp, poor]
    omega

/-- With poorer lines no speed becomes sure. -/
theorem poor_sure {xs xm xl xh v d : Int} (h1 : 0 ≤ xs) (h2 : 0 ≤ xm) (h3 : 0 ≤ xl) (h4 : 0 ≤ xh) (hv : 1 ≤ v ∧ v ≤ 20) (hd : 0 ≤ d ∧ d ≤ 1000) {us : List Tw} (h : okT us) (hs : sureL v d (us.map (poor xs xm xl xh)) = true) : sureL v d us = true := by
  rw [sureL_iff hv hd (poor_okT h1 h2 h3 h4 h).2.2] at hs
  rw [sureL_iff hv hd h.2.2]
  intro i u hu
  have h0 := hs i (poor xs xm xl xh u) (by rw [List.getElem?_map, hu]; rfl)
  have hok := h.2.2 u (List.mem_of_getElem? hu)
  have hsm := poor_sums (xs := xs) (xm := xm) h3 h4 h.2.2 i
  have hl := loS_bd (poor_okT h1 h2 h3 h4 h) i
  have hvv := vv_bd hv
  unfold sureU at h0 ⊢
  simp only [Bool.and_eq_true, decide_eq_true_eq] at h0 ⊢
  unfold Tw.ok at hok
  have a1 : v * v * hiS us i ≤ v * v * hiS (us.map (poor xs xm xl xh)) i := Int.mul_le_mul_of_nonneg_left hsm.2 (by omega)
  have a2 : v * v * loS (us.map (poor xs xm xl xh)) i ≤ v * v * loS us i := Int.mul_le_mul_of_nonneg_left hsm.1 (by omega)
  have a3 : 8 * (v * v * loS (us.map (poor xs xm xl xh)) i) * d ≤ 8 * (v * v * loS us i) * d := Int.mul_le_mul_of_nonneg_right (by omega) hd.1
  have a4 : u.mass * u.len * u.len ≤ (poor xs xm xl xh u).mass * (poor xs xm xl xh u).len * (poor xs xm xl xh u).len := by
    have e : u.mass ≤ (poor xs xm xl xh u).mass := by simp only [poor]; omega
    have e' : (poor xs xm xl xh u).len = u.len := rfl
    rw [e']
    exact Int.mul_le_mul_of_nonneg_right (Int.mul_le_mul_of_nonneg_right e (by omega)) (by omega)
  have a5 : (poor xs xm xl xh u).str ≤ u.str := by simp only [poor]; omega
  omega

/-- With more depth none is lost. -/
theorem deep_sure {v d x : Int} (hv : 1 ≤ v ∧ v ≤ 20) (hd : 0 ≤ d ∧ d ≤ 1000) (hx : 0 ≤ x) (hdx : d + x ≤ 1000) {us : List Tw} (h : okT us) (hs : sureL v d us = true) : sureL v (d + x) us = true := by
  rw [sureL_iff hv hd h.2.2] at hs
  rw [sureL_iff hv (by omega) h.2.2]
  intro i u hu
  have h0 := hs i u hu
  have hl := loS_bd h i
  have hvv := vv_bd hv
  unfold sureU at h0 ⊢
  simp only [Bool.and_eq_true, decide_eq_true_eq] at h0 ⊢
  have m := Int.mul_nonneg (show 0 ≤ v * v by omega) hl.1
  have := Int.mul_le_mul_of_nonneg_left (show d ≤ d + x by omega) (show 0 ≤ 8 * (v * v * loS us i) by omega)
  omega

theorem upTo_mem {p : Int → Bool} {n : Nat} {x : Int} : x ∈ upTo p n ↔ 1 ≤ x ∧ x ≤ n ∧ p x = true := by
  induction n with
  | zero => simp [upTo]; omega
  | succ n ih =>
    unfold upTo
    split
    · rename_i h
      rw [List.mem_append, ih, List.mem_singleton]
      constructor
      · rintro (⟨a, b, c⟩ | rfl)
        · exact ⟨a, by omega, c⟩
        · exact ⟨by omega, by omega, h⟩
      · rintro ⟨a, b, c⟩
        by_cases e : x = ((n + 1 : Nat) : Int)
        · exact .inr e
        · exact .inl ⟨a, by omega, c⟩
    · rename_i h
      rw [ih]
      constructor
      · rintro ⟨a, b, c⟩
        exact ⟨a, by omega, c⟩
      · rintro ⟨a, b, c⟩
        refine ⟨a, ?_, c⟩
        have : x ≠ ((n + 1 : Nat) : Int) := fun e => h (e ▸ c)
        omega

theorem worse_sub {xs xm xl xh d : Int} (h1 : 0 ≤ xs) (h2 : 0 ≤ xm) (h3 : 0 ≤ xl) (h4 : 0 ≤ xh) (hd : 0 ≤ d ∧ d ≤ 1000) {us : List Tw} (h : okT us) : ((sureF (us.map (poor xs xm xl xh)) d).all fun x => decide (x ∈ sureF us d)) = true := by
  rw [List.all_eq_true]
  intro v hv
  have := upTo_mem.1 hv
  exact decide_eq_true (upTo_mem.2 ⟨this.1, this.2.1, poor_sure h1 h2 h3 h4 ⟨this.1, by omega⟩ hd h this.2.2⟩)

theorem deeper_sub {d x : Int} (hd : 0 ≤ d ∧ d ≤ 1000) (hx : 0 ≤ x) (hdx : d + x ≤ 1000) {us : List Tw} (h : okT us) : ((sureF us d).all fun y => decide (y ∈ sureF us (d + x))) = true := by
  rw [List.all_eq_true]
  intro v hv
  have := upTo_mem.1 hv
  exact decide_eq_true (upTo_mem.2 ⟨this.1, this.2.1, deep_sure ⟨this.1, by omega⟩ hd hx hdx h this.2.2⟩)

end Go.Proofs.Ytpfbpelkodlljaa
