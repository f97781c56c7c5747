/- A part of a proof: the symbolic walk and what it shows of single functions. -/
import Derived.Test.YtpfbpelkodlljaaSxV19
set_option linter.all false
namespace Go.Proofs.Ytpfbpelkodlljaa
open Go.RowKit Go.SX
set_option maxRecDepth 4000
set_option linter.unusedSimpArgs false
set_option linter.unusedVariables false

/-! ### Orders of all units: plain -/

theorem Ord.mem {S : Nat} {l : List Nat} (h : Ord S l) (hS : S < 256) : ∀ i, S.testBit i = true → i ∈ l := by
  induction h with
  | nil => intro i hi; simp at hi
  | @cons S j l hb ho ih =>
    intro i hi
    have h8 := bit8 hS hb
    have hl := bit_subL hS h8 hb
    by_cases e : i = j
    · subst e; exact List.mem_cons_self
    · refine List.mem_cons_of_mem _ (ih (by omega) i ?_)
      rw [bit_subT hS h8 (bit8 hS hi) hb, hi]
      simp [e]

theorem cnt_le_len : ∀ (l : List Int) (S : Nat), S < 256 → (∀ i : Nat, S.testBit i = true → (i : Int) ∈ l) → cnt S ≤ l.length
  | [], S, hS, h => by
    have : S = 0 := by
      by_cases h0 : S = 0
      · exact h0
      · obtain ⟨i, _, hb⟩ := some_bit ⟨S, hS⟩ ⟨8, by omega⟩ h0 hS
        have := h i.val hb
        simp at this
    subst this
    exact Nat.le_of_eq (by decide)
  | x :: l, S, hS, h => by
    by_cases hx : ∃ i : Nat, S.testBit i = true ∧ x = i
    · obtain ⟨i, hb, rfl⟩ := hx
      have h8 := bit8 hS hb
      have hl := bit_subL hS h8 hb
      have := cnt_le_len l (S - 2 ^ i) (by omega) fun j hj => by
        have hj8 := bit8 (by omega) hj
        rw [bit_subT hS h8 hj8 hb, Bool.and_eq_true] at hj
        rcases List.mem_cons.1 (h j hj.1) with e | hm
        · have : j = i := by omega
          simp [this] at hj
        · exact hm
      have h5 : cnt S = cnt (S - 2 ^ i) + 1 := (cnt_facts ⟨S, hS⟩).2 ⟨i, h8⟩ hb
      simp only [List.length_cons]
      omega
    · have := cnt_le_len l S hS fun j hj => by
        rcases List.mem_cons.1 (h j hj) with e | hm
        · exact absurd ⟨j, hj, e.symm⟩ hx
        · exact hm
      simp only [List.length_cons]
      omega

theorem ord_of : ∀ (l : List Int) (S : Nat), S < 256 → cnt S = l.length → (∀ i : Nat, S.testBit i = true → (i : Int) ∈ l) → ∃ p, l = nts p ∧ Ord S p
  | [], S, hS, hc, h => by
    have : S = 0 := (cnt_facts ⟨S, hS⟩).1.1 hc
    subst this
    exact ⟨[], rfl, .nil⟩
  | x :: l, S, hS, hc, h => by
    by_cases hx : ∃ i : Nat, S.testBit i = true ∧ x = i
    · obtain ⟨i, hb, rfl⟩ := hx
      have h8 := bit8 hS hb
      have hl := bit_subL hS h8 hb
      have h5 : cnt S = cnt (S - 2 ^ i) + 1 := (cnt_facts ⟨S, hS⟩).2 ⟨i, h8⟩ hb
      obtain ⟨p, rfl, ho⟩ := ord_of l (S - 2 ^ i) (by omega) (by simp only [List.length_cons] at hc; omega) fun j hj => by
        have hj8 := bit8 (by omega) hj
        rw [bit_subT hS h8 hj8 hb, Bool.and_eq_true] at hj
        rcases List.mem_cons.1 (h j hj.1) with e | hm
        · have : j = i := by omega
          simp [this] at hj
        · exact hm
      exact ⟨i :: p, rfl, .cons hb ho⟩
    · have := cnt_le_len l S hS fun j hj => by
        rcases List.mem_cons.1 (h j hj) with e | hm
        · exact absurd ⟨j, hj, e.symm⟩ hx
        · exact hm
      simp only [List.length_cons] at hc
      omega

/-- The set of all units. -/
theorem all_bits {n : Nat} (hn : n ≤ 8) : 2 ^ n - 1 < 256 ∧ cnt (2 ^ n - 1) = n ∧ ∀ i, (2 ^ n - 1).testBit i = true ↔ i < n := by
  have h1 : 2 ^ n ≤ 256 := by have := Nat.pow_le_pow_right (n := 2) (by omega) hn; exact this
  have hA := cnt_all ⟨n, by omega⟩
  have hA1 : cnt (2 ^ n - 1) = n := hA.1
  refine ⟨by have := Nat.two_pow_pos n; omega, hA1, fun i => ?_⟩
  by_cases h8 : i < 8
  · have hA2 : (2 ^ n - 1).testBit i = decide (i < n) := hA.2 ⟨i, h8⟩
    rw [hA2, decide_eq_true_iff]
  · constructor
    · intro h
      have := bit8 (by have := Nat.two_pow_pos n; omega) h
      omega
    · intro h
      omega

theorem turned_ord {n : Nat} (hn : n ≤ 8) {l : List Int} (h : (decide ((l.length : Int) = n) && (List.range l.length).all fun k => decide ((k : Int) ∈ l)) = true) : ∃ p, l = nts p ∧ Ord (2 ^ n - 1) p := by
  rw [Bool.and_eq_true, decide_eq_true_iff, List.all_eq_true] at h
  obtain ⟨a, b, c⟩ := all_bits hn
  refine ord_of l _ a (by omega) fun i hi => ?_
  have := h.2 i (List.mem_range.2 (by have := (c i).1 hi; omega))
  simpa using this

theorem ord_turned {n : Nat} (hn : n ≤ 8) {p : List Nat} (h : Ord (2 ^ n - 1) p) : (decide (((nts p).length : Int) = n) && (List.range (nts p).length).all fun k => decide ((k : Int) ∈ nts p)) = true := by
  obtain ⟨a, b, c⟩ := all_bits hn
  have hf := h.facts a
  rw [Bool.and_eq_true, decide_eq_true_iff, List.all_eq_true, List.length_map]
  refine ⟨by omega, fun k hk => ?_⟩
  rw [decide_eq_true_iff, List.mem_map]
  exact ⟨k, h.mem a k ((c k).2 (by have := List.mem_range.1 hk; omega)), rfl⟩

theorem ord_lt {n : Nat} (hn : n ≤ 8) {p : List Nat} (h : Ord (2 ^ n - 1) p) : p.length = n ∧ ∀ i ∈ p, i < n := by
  obtain ⟨a, b, c⟩ := all_bits hn
  have hf := h.facts a
  exact ⟨by omega, fun i hi => (c i).1 (hf.2.1 i hi)⟩

theorem dsum_orderT {us : List Tw} : ∀ {o : List Nat}, (∀ i ∈ o, i < us.length) → dsum us o = hiS (orderT us o) 0
  | [], _ => rfl
  | j :: o, ho => by
    have hjl := ho j List.mem_cons_self
    have e : orderT us (j :: o) = us[j] :: orderT us o := by
      unfold orderT
      rw [List.filterMap_cons, List.getElem?_eq_getElem hjl]
    have e2 : dhAt us j = us[j].dh := by unfold dhAt; rw [List.getElem?_eq_getElem hjl]
    have := dsum_orderT (us := us) (o := o) fun k hk => ho k (List.mem_cons_of_mem _ hk)
    simp only [dsum, hiS, List.drop_zero, List.map_cons, List.sum_cons] at this ⊢
    rw [e, List.map_cons, List.sum_cons, ← this, e2]

theorem dragK_all {us : List Tw} (hn : us.length ≤ 8) : ∀ k, k ≤ us.length → dragK us (2 ^ us.length - 1) k + hiS us k = hiS us 0
  | 0, _ => by simp [dragK]
  | k + 1, hk => by
    have ih := dragK_all hn k (by omega)
    have hb : (2 ^ us.length - 1).testBit k = true := ((all_bits hn).2.2 k).2 (by omega)
    have e2 : dhAt us k = us[k].dh := by unfold dhAt; rw [List.getElem?_eq_getElem (by omega)]
    rw [dragK, if_pos hb, e2, ← ih, hiS_cons (show k < us.length by omega)]
    omega

theorem hi_order {us : List Tw} (hok : okT us) {p : List Nat} (h : Ord (2 ^ us.length - 1) p) : hiS (orderT us p) 0 = hiS us 0 := by
  rw [← dsum_orderT (ord_lt hok.2.1 h).2, h.dsum hok (all_bits hok.2.1).1]
  have := dragK_all hok.2.1 us.length (Nat.le_refl _)
  rw [hiS_end] at this
  unfold dragS
  omega

def Tw.flip (u : Tw) : Tw := { u with dh := u.dl }

theorem lo_order {us : List Tw} (hok : okT us) {p : List Nat} (h : Ord (2 ^ us.length - 1) p) : loS (orderT us p) 0 = loS us 0 := by
  have hok' : okT (us.map Tw.flip) := by
    refine ⟨by simpa using hok.1, by simpa using hok.2.1, fun u hu => ?_⟩
    obtain ⟨v, hv, rfl⟩ := List.mem_map.1 hu
    have := hok.2.2 v hv
    unfold Tw.ok at this ⊢
    simp only [Tw.flip]
    omega
  have h' := hi_order hok' (p := p) (by simpa using h)
  have e : ∀ vs : List Tw, hiS (vs.map Tw.flip) 0 = loS vs 0 := fun vs => by
    unfold hiS loS
    simp [Tw.flip, Function.comp_def]
  have e2 : orderT (us.map Tw.flip) p = (orderT us p).map Tw.flip := by
    unfold orderT
    rw [List.map_filterMap]
    simp
  rw [e2, e, e] at h'
  exact h'

theorem force_order {us : List Tw} (hok : okT us) {p : List Nat} (h : Ord (2 ^ us.length - 1) p) (v : Int) : forceP (orderT us p) v 0 = forceP us v 0 := by
  unfold forceP
  rw [hi_order hok h, lo_order hok h]

theorem lex_at : ∀ {l m : List Nat}, lexLe l m → ∀ i, i < l.length → i < m.length → (∀ j, j < i → l[j]? = m[j]?) → l.getD i 0 = m.getD i 0 ∨ l.getD i 0 < m.getD i 0
  | [], _, _, i, h, _, _ => by simp at h
  | _ :: _, [], h, _, _, _, _ => by simp [lexLe] at h
  | a :: l, b :: m, h, 0, _, _, _ => by
    simp only [lexLe] at h
    rcases h with h | ⟨h, _⟩
    · exact .inr h
    · exact .inl h
  | a :: l, b :: m, h, i + 1, h1, h2, h3 => by
    simp only [lexLe] at h
    have h0 := h3 0 (by omega)
    simp only [List.getElem?_cons_zero, Option.some.injEq] at h0
    subst h0
    rcases h with h | ⟨_, h⟩
    · omega
    · have := lex_at h i (by simpa using h1) (by simpa using h2) fun j hj => by simpa using h3 (j + 1) (by omega)
      simpa using this

/-- The first speed with which a line does not hold tells the weakest line. -/
theorem weak_first {us : List Tw} {x e : Int} (hw : weakSpec us x e) {n i : Nat} (hn : n ≤ 20) (hi : i < us.length) (h1 : ∀ j, j < us.length → n ≤ spdAt us j + 1) (h2 : ∀ j, j < i → n ≤ spdAt us j) (h3 : spdAt us i < n) : x = i ∧ e = 0 := by
  have hk : weakSpec us i 0 := by
    refine .inl ⟨rfl, i, rfl, hi, by omega, fun j hj => ?_, fun j hj => ?_⟩
    · have := h1 j hj; omega
    · have := h2 j hj; omega
  exact weak_uniq hw hk

theorem weak_none {us : List Tw} {x e : Int} (hw : weakSpec us x e) (h : ∀ j, j < us.length → 20 ≤ spdAt us j) : e = 3 := by
  rcases hw with ⟨_, i, _, a1, a2, _⟩ | ⟨h, _⟩
  · have := h i a1; omega
  · exact h

end Go.Proofs.Ytpfbpelkodlljaa
