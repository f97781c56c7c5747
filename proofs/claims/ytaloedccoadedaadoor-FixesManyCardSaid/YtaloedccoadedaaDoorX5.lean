/- Parts of a proof: the symbolic walk and what it shows of single functions. -/
import Derived.Test.YtaloedccoadedaaDoorX3
set_option linter.all false
namespace Go.SX
open Go.RowKit
set_option linter.unusedSimpArgs false
set_option linter.unusedVariables false
def idx (n : Nat) : List Int := (List.range n).map fun (i : Nat) => (i : Int)
theorem idx_len (n : Nat) : (idx n).length = n := by unfold idx; rw [List.length_map, List.length_range]
theorem idx_get {n i : Nat} (h : i < (idx n).length) : (idx n)[i] = (i : Int) := by simp [idx]
def lexB : List Int → List Int → Bool
  | a :: x, b :: y => if a = b then lexB x y else decide (a < b)
  | _, _ => false
def befB (x y : List Int) : Bool := if x.length = y.length then lexB x y else decide (x.length < y.length)
theorem lexB_irr (x : List Int) : lexB x x = false := by
  induction x with
  | nil => rfl
  | cons a x ih => simp [lexB, ih]
theorem lexB_asym : ∀ {x y : List Int}, lexB x y = true → lexB y x = false := by
  intro x
  induction x with
  | nil => intro y h; simp [lexB] at h
  | cons a x ih =>
    intro y h
    cases y with
    | nil => simp [lexB] at h
    | cons b y =>
      simp only [lexB] at h ⊢
      by_cases e : a = b
      · subst e; simp only [if_true] at h ⊢; exact ih h
      · rw [if_neg e] at h; rw [if_neg (fun k => e k.symm)]
        simp only [decide_eq_true_eq, decide_eq_false_iff_not] at h ⊢
        omega
theorem lexB_trans : ∀ {x y z : List Int}, lexB x y = true → lexB y z = true → lexB x z = true := by
  intro x
  induction x with
  | nil => intro y z h; simp [lexB] at h
  | cons a x ih =>
    intro y z h h2
    cases y with
    | nil => simp [lexB] at h
    | cons b y =>
      cases z with
      | nil => simp [lexB] at h2
      | cons c z =>
        simp only [lexB] at h h2 ⊢
        by_cases e : a = b
        · subst e
          simp only [if_true] at h
          by_cases e2 : a = c
          · rw [if_pos e2] at h2 ⊢; exact ih h h2
          · rw [if_neg e2] at h2 ⊢; exact h2
        · rw [if_neg e, decide_eq_true_eq] at h
          by_cases e2 : b = c
          · subst e2; rw [if_neg e, decide_eq_true_eq]; exact h
          · rw [if_neg e2, decide_eq_true_eq] at h2
            rw [if_neg (by omega), decide_eq_true_eq]; omega
theorem lexB_tri : ∀ {x y : List Int}, x.length = y.length → lexB x y = false → lexB y x = false → x = y := by
  intro x
  induction x with
  | nil => intro y h _ _; exact (List.eq_nil_of_length_eq_zero h.symm).symm
  | cons a x ih =>
    intro y hl h h2
    cases y with
    | nil => simp at hl
    | cons b y =>
      simp only [lexB] at h h2
      by_cases e : a = b
      · subst e
        simp only [if_true] at h h2
        rw [ih (by simpa using hl) h h2]
      · rw [if_neg e, decide_eq_false_iff_not] at h
        rw [if_neg (fun k => e k.symm), decide_eq_false_iff_not] at h2
        omega
theorem befB_trans {x y z : List Int} (h : befB x y = true) (h2 : befB y z = true) : befB x z = true := by
  unfold befB at h h2 ⊢
  by_cases e1 : x.length = y.length
  · rw [if_pos e1] at h
    by_cases e2 : y.length = z.length
    · rw [if_pos e2] at h2; rw [if_pos (e1.trans e2)]; exact lexB_trans h h2
    · rw [if_neg e2, decide_eq_true_eq] at h2; rw [if_neg (by omega), decide_eq_true_eq]; omega
  · rw [if_neg e1, decide_eq_true_eq] at h
    by_cases e2 : y.length = z.length
    · rw [if_neg (by omega), decide_eq_true_eq]; omega
    · rw [if_neg e2, decide_eq_true_eq] at h2; rw [if_neg (by omega), decide_eq_true_eq]; omega
theorem befB_tri {x y : List Int} (h : befB x y = false) (h2 : befB y x = false) : x = y := by
  unfold befB at h h2
  by_cases e : x.length = y.length
  · rw [if_pos e] at h; rw [if_pos e.symm] at h2; exact lexB_tri e h h2
  · rw [if_neg e, decide_eq_false_iff_not] at h; rw [if_neg (fun k => e k.symm), decide_eq_false_iff_not] at h2; omega
theorem cmb_mem {α : Type} : ∀ {l : List α} {m : Nat} {x : List α}, x ∈ cmb m l ↔ x.Sublist l ∧ x.length = m := by
  intro l
  induction l with
  | nil =>
    intro m x
    cases m with
    | zero =>
      simp only [cmb, List.mem_singleton, List.sublist_nil]
      exact ⟨fun h => ⟨h, by rw [h]; rfl⟩, fun h => h.1⟩
    | succ m =>
      simp only [cmb, List.not_mem_nil, List.sublist_nil, false_iff]
      rintro ⟨rfl, h⟩
      cases h
  | cons a r ih =>
    intro m x
    cases m with
    | zero =>
      simp only [cmb, List.mem_singleton]
      exact ⟨fun h => by rw [h]; exact ⟨List.nil_sublist _, rfl⟩, fun h => List.eq_nil_of_length_eq_zero h.2⟩
    | succ m =>
      simp only [cmb, List.mem_append, List.mem_map]
      constructor
      · rintro (⟨y, hy, rfl⟩ | h)
        · have := ih.1 hy
          exact ⟨this.1.cons_cons a, by simp [this.2]⟩
        · have := ih.1 h
          exact ⟨this.1.cons a, this.2⟩
      · rintro ⟨h, hl⟩
        cases h with
        | cons _ h => exact .inr (ih.2 ⟨h, hl⟩)
        | cons_cons _ h => exact .inl ⟨_, ih.2 ⟨h, by simpa using hl⟩, rfl⟩
theorem cmb_sorted : ∀ {l : List Int} (m : Nat), l.Pairwise (· < ·) → (cmb m l).Pairwise fun x y => lexB x y = true := by
  intro l
  induction l with
  | nil =>
    intro m _
    cases m with
    | zero => exact List.pairwise_singleton _ _
    | succ m => exact List.Pairwise.nil
  | cons a r ih =>
    intro m h
    have h := List.pairwise_cons.1 h
    cases m with
    | zero => exact List.pairwise_singleton _ _
    | succ m =>
      refine List.pairwise_append.2 ⟨List.pairwise_map.2 ((ih m h.2).imp fun {x y} h => by simp [lexB, h]), ih (m + 1) h.2, fun x hx y hy => ?_⟩
      obtain ⟨x, _, rfl⟩ := List.mem_map.1 hx
      obtain ⟨hy1, hy2⟩ := cmb_mem.1 hy
      cases y with
      | nil => cases hy2
      | cons b y =>
        have := h.1 b (hy1.subset List.mem_cons_self)
        simp only [lexB]
        rw [if_neg (by omega), decide_eq_true_eq]
        exact this
theorem idx_succ (n : Nat) : idx (n + 1) = idx n ++ [(n : Int)] := by unfold idx; rw [List.range_succ, List.map_append]; rfl
theorem idx_mem {n : Nat} {i : Int} : i ∈ idx n ↔ 0 ≤ i ∧ i < n := by
  unfold idx
  rw [List.mem_map]
  constructor
  · rintro ⟨k, hk, rfl⟩
    rw [List.mem_range] at hk
    omega
  · intro h
    exact ⟨i.toNat, by rw [List.mem_range]; omega, by omega⟩
theorem idx_sorted (n : Nat) : (idx n).Pairwise (· < ·) := by
  induction n with
  | zero => exact List.Pairwise.nil
  | succ n ih =>
    rw [idx_succ]
    refine List.pairwise_append.2 ⟨ih, List.pairwise_singleton _ _, fun x hx y hy => ?_⟩
    rw [List.mem_singleton] at hy
    have := idx_mem.1 hx
    omega
def fstL (P : List Int → Bool) (n : Nat) : Option (List Int) := (List.range (n + 1)).findSome? fun m => (cmb m (idx n)).find? P
theorem fs_none {β : Type} (f : Nat → Option β) : ∀ n, (∀ m, m < n → f m = none) → (List.range n).findSome? f = none := by
  intro n
  induction n with
  | zero => intro _; rfl
  | succ n ih =>
    intro h
    rw [List.range_succ, List.findSome?_append, ih fun m hm => h m (by omega)]
    simp [h n (by omega)]
theorem fs_some {β : Type} (f : Nat → Option β) {k : Nat} {x : β} (h0 : ∀ m, m < k → f m = none) (h1 : f k = some x) : ∀ n, k < n → (List.range n).findSome? f = some x := by
  intro n
  induction n with
  | zero => intro h; omega
  | succ n ih =>
    intro h
    rw [List.range_succ, List.findSome?_append]
    by_cases e : k = n
    · subst e
      rw [fs_none f k h0]
      simp [h1]
    · rw [ih (by omega)]
      rfl
def Best (P : List Int → Bool) (n : Nat) (x : List Int) : Prop := x.Sublist (idx n) ∧ P x = true ∧ ∀ y, y.Sublist (idx n) → P y = true → befB y x = false
theorem Best.uniq {P : List Int → Bool} {n : Nat} {x y : List Int} (hx : Best P n x) (hy : Best P n y) : x = y := befB_tri (hy.2.2 x hx.1 hx.2.1) (hx.2.2 y hy.1 hy.2.1)
theorem sub_len {n : Nat} {y : List Int} (h : y.Sublist (idx n)) : y.length ≤ n := by have := h.length_le; rwa [idx_len] at this
theorem fst_none {P : List Int → Bool} {n : Nat} (h : fstL P n = none) : ∀ y, y.Sublist (idx n) → P y = false := by
  intro y hy
  have := (List.findSome?_eq_none_iff.1 h) y.length (by rw [List.mem_range]; have := sub_len hy; omega)
  have := List.find?_eq_none.1 this y (cmb_mem.2 ⟨hy, rfl⟩)
  simpa using this
theorem fst_some {P : List Int → Bool} {n : Nat} {x : List Int} (h : fstL P n = some x) : Best P n x := by
  have hx : ∃ k, k < n + 1 ∧ (∀ m, m < k → (cmb m (idx n)).find? P = none) ∧ (cmb k (idx n)).find? P = some x := by
    refine Classical.byContradiction fun hc => ?_
    have : ∀ k, k ≤ n + 1 → ∀ m, m < k → (cmb m (idx n)).find? P = none := by
      intro k
      induction k with
      | zero => intro _ m hm; omega
      | succ k ih =>
        intro hk m hm
        by_cases e : m = k
        · subst e
          cases hf : (cmb m (idx n)).find? P with
          | none => rfl
          | some y =>
            have h1 := fs_some (fun m => (cmb m (idx n)).find? P) (ih (by omega)) hf (n + 1) (by omega)
            have h2 : some x = some y := h.symm.trans h1
            cases h2
            exact absurd ⟨m, by omega, ih (by omega), hf⟩ hc
        · exact ih (by omega) m (by omega)
    have := fs_none (fun m => (cmb m (idx n)).find? P) (n + 1) (this (n + 1) (Nat.le_refl _))
    rw [show fstL P n = none from this] at h
    cases h
  obtain ⟨k, hk, h0, h1⟩ := hx
  obtain ⟨hp, i, hi, hxi, hbef⟩ := List.find?_eq_some_iff_getElem.1 h1
  have hm := cmb_mem.1 (List.mem_of_find?_eq_some h1)
  refine ⟨hm.1, hp, fun y hy hP => ?_⟩
  unfold befB
  by_cases e : y.length = x.length
  · rw [if_pos e]
    have hy' : y ∈ cmb k (idx n) := cmb_mem.2 ⟨hy, by omega⟩
    obtain ⟨j, hj, rfl⟩ := List.getElem_of_mem hy'
    rcases Nat.lt_trichotomy j i with h3 | h3 | h3
    · have := hbef j h3
      rw [hP] at this
      cases this
    · subst h3
      rw [hxi]
      exact lexB_irr _
    · have := List.pairwise_iff_getElem.1 (cmb_sorted k (idx_sorted n)) i j hi hj h3
      rw [hxi] at this
      exact lexB_asym this
  · rw [if_neg e, decide_eq_false_iff_not]
    intro hlt
    have := List.find?_eq_none.1 (h0 y.length (by omega)) y (cmb_mem.2 ⟨hy, rfl⟩)
    exact this hP
theorem Best.fst {P : List Int → Bool} {n : Nat} {x : List Int} (h : Best P n x) : fstL P n = some x := by
  cases hf : fstL P n with
  | none => have := fst_none hf x h.1; rw [h.2.1] at this; cases this
  | some y => rw [h.uniq (fst_some hf)]
theorem none_fst {P : List Int → Bool} {n : Nat} (h : ∀ y, y.Sublist (idx n) → P y = false) : fstL P n = none := by
  cases hf : fstL P n with
  | none => rfl
  | some y => obtain ⟨a, b, _⟩ := fst_some hf; rw [h y a] at b; cases b
def pick (p : Nat → Bool) (n : Nat) : List Int := ((List.range n).filter p).map fun (i : Nat) => (i : Int)
theorem pick_succ (p : Nat → Bool) (n : Nat) : pick p (n + 1) = pick p n ++ (if p n then [(n : Int)] else []) := by
  unfold pick
  rw [List.range_succ, List.filter_append, List.map_append]
  cases h : p n <;> simp [h]
theorem pick_congr {p q : Nat → Bool} {n : Nat} (h : ∀ i, i < n → p i = q i) : pick p n = pick q n := by
  unfold pick
  rw [List.filter_congr fun i hi => h i (List.mem_range.1 hi)]
theorem sub_pick : ∀ {n : Nat} {y : List Int}, y.Sublist (idx n) → ∃ s, s < 2 ^ n ∧ pick s.testBit n = y := by
  intro n
  induction n with
  | zero =>
    intro y h
    exact ⟨0, by decide, (List.sublist_nil.1 h).symm ▸ rfl⟩
  | succ n ih =>
    intro y h
    rw [idx_succ] at h
    obtain ⟨y1, y2, rfl, h1, h2⟩ := List.sublist_append_iff.1 h
    obtain ⟨s, hs, rfl⟩ := ih h1
    have hpow : 2 ^ (n + 1) = 2 ^ n + 2 ^ n := by rw [Nat.pow_succ]; omega
    have h2' : y2 = [] ∨ y2 = [(n : Int)] := by
      cases h2 with
      | cons _ h => exact .inl (List.sublist_nil.1 h)
      | cons_cons _ h => rw [List.sublist_nil.1 h]; exact .inr rfl
    rcases h2' with rfl | rfl
    · refine ⟨s, by omega, ?_⟩
      rw [pick_succ, Nat.testBit_lt_two_pow hs]
      rfl
    · refine ⟨2 ^ n + s, by omega, ?_⟩
      rw [pick_succ, Nat.testBit_two_pow_add_eq, Nat.testBit_lt_two_pow hs, pick_congr fun i hi => Nat.testBit_two_pow_add_gt hi s]
      rfl
structure MaxI (mus : List Int → Option Int) (done : List Int → Prop) (t : Int) (m : List Int) : Prop where
  all : ∀ y, done y → ∃ u, mus y = some u ∧ u ≤ t ∧ (u = t → befB y m = false)
  one : (t = -1 ∧ m = [] ∧ ∀ y, ¬ done y) ∨ (done m ∧ mus m = some t)
theorem befB_irr (y : List Int) : befB y y = false := by
  unfold befB
  rw [if_pos rfl]
  exact lexB_irr y
theorem MaxI.more {mus : List Int → Option Int} {d : List Int → Prop} {t : Int} {m : List Int} (h : MaxI mus d t m) {y : List Int} {u : Int} (hy : mus y = some u) (hu : u > t) : MaxI mus (fun z => d z ∨ z = y) u y := by
  refine ⟨fun z hz => ?_, .inr ⟨.inr rfl, hy⟩⟩
  rcases hz with hz | rfl
  · obtain ⟨v, h1, h2, _⟩ := h.all z hz
    exact ⟨v, h1, by omega, fun e => by omega⟩
  · exact ⟨u, hy, Int.le_refl _, fun _ => befB_irr z⟩
theorem MaxI.keep {mus : List Int → Option Int} {d : List Int → Prop} {t : Int} {m : List Int} (h : MaxI mus d t m) {y : List Int} {u : Int} (hy : mus y = some u) (h0 : 0 ≤ u) (hu : u ≤ t) (hb : u = t → befB y m = false) : MaxI mus (fun z => d z ∨ z = y) t m := by
  refine ⟨fun z hz => ?_, ?_⟩
  · rcases hz with hz | rfl
    · exact h.all z hz
    · exact ⟨u, hy, hu, hb⟩
  · rcases h.one with ⟨h1, _⟩ | ⟨h1, h2⟩
    · omega
    · exact .inr ⟨.inl h1, h2⟩
theorem MaxI.before {mus : List Int → Option Int} {d : List Int → Prop} {t : Int} {m : List Int} (h : MaxI mus d t m) {y : List Int} (hy : mus y = some t) (hb : befB y m = true) : MaxI mus (fun z => d z ∨ z = y) t y := by
  refine ⟨fun z hz => ?_, .inr ⟨.inr rfl, hy⟩⟩
  rcases hz with hz | rfl
  · obtain ⟨v, h1, h2, h3⟩ := h.all z hz
    refine ⟨v, h1, h2, fun e => ?_⟩
    cases hc : befB z y with
    | false => rfl
    | true =>
      have := befB_trans hc hb
      rw [h3 e] at this
      cases this
  · exact ⟨t, hy, Int.le_refl _, fun _ => befB_irr z⟩
theorem MaxI.congr {mus : List Int → Option Int} {d d' : List Int → Prop} {t : Int} {m : List Int} (h : MaxI mus d t m) (hd : ∀ y, d y ↔ d' y) : MaxI mus d' t m :=
  ⟨fun y hy => h.all y ((hd y).2 hy), h.one.imp (fun ⟨a, b, c⟩ => ⟨a, b, fun y hy => c y ((hd y).2 hy)⟩) fun ⟨a, b⟩ => ⟨(hd m).1 a, b⟩⟩
end Go.SX

namespace Go.SX
set_option linter.unusedSimpArgs false
set_option linter.unusedVariables false
def NV : Int := 1073741824
structure Crs where
  n : Nat
  nr : Nat → Nat → Bool
  T : Nat
  cost : Nat → Nat → Int
  M : Int
structure Crs.Ok (g : Crs) : Prop where
  sym : ∀ x y, x < g.n → y < g.n → g.nr x y = g.nr y x
  cost : ∀ t x, g.cost t x = NV ∨ 0 ≤ g.cost t x ∧ g.cost t x ≤ g.M
  M0 : 0 ≤ g.M
  T1 : 1 ≤ g.T
  TM : (g.T : Int) * g.M < NV
def Crs.mins (g : Crs) (row : Nat → Int) (x : Nat) : Nat → Int
  | 0 => NV
  | m + 1 => if g.nr x m = true ∧ row m < g.mins row x m then row m else g.mins row x m
theorem Crs.mins_top (g : Crs) (row : Nat → Int) (x : Nat) : ∀ m, g.mins row x m ≤ NV
  | 0 => Int.le_refl _
  | m + 1 => by
    have := g.mins_top row x m
    unfold mins
    split
    · rename_i h
      omega
    · exact this
theorem Crs.mins_le (g : Crs) (row : Nat → Int) (x : Nat) {y : Nat} (hn : g.nr x y = true) : ∀ m, y < m → g.mins row x m ≤ row y
  | 0, h => by omega
  | m + 1, h => by
    unfold mins
    by_cases e : y = m
    · subst e
      split
      · exact Int.le_refl _
      · rename_i h1
        have : ¬ row y < g.mins row x y := fun h2 => h1 ⟨hn, h2⟩
        omega
    · have := g.mins_le row x hn m (by omega)
      split
      · rename_i h1
        omega
      · exact this
theorem Crs.mins_att (g : Crs) (row : Nat → Int) (x : Nat) : ∀ m, g.mins row x m = NV ∨ ∃ y, y < m ∧ g.nr x y = true ∧ row y = g.mins row x m
  | 0 => .inl rfl
  | m + 1 => by
    unfold mins
    split
    · rename_i h
      exact .inr ⟨m, by omega, h.1, rfl⟩
    · rcases g.mins_att row x m with h | ⟨y, h1, h2, h3⟩
      · exact .inl h
      · exact .inr ⟨y, by omega, h2, h3⟩
def Crs.onw (g : Crs) : Nat → Nat → Int
  | 0, x => g.cost (g.T - 1) x
  | k + 1, x => min NV (g.cost (g.T - 1 - (k + 1)) x + g.mins (g.onw k) x g.n)
def Crs.isC (g : Crs) : List Nat → Prop
  | [] => True
  | [x] => x < g.n
  | x :: y :: l => x < g.n ∧ g.nr x y = true ∧ g.isC (y :: l)
def Crs.tot (g : Crs) : Nat → List Nat → Int
  | _, [] => 0
  | t, x :: l => g.cost t x + g.tot (t + 1) l
def Crs.can (g : Crs) : Nat → List Nat → Prop
  | _, [] => True
  | t, x :: l => g.cost t x < NV ∧ g.can (t + 1) l
theorem Crs.isC_tail {g : Crs} {x : Nat} {l : List Nat} (h : g.isC (x :: l)) : x < g.n ∧ g.isC l := by
  cases l with
  | nil => exact ⟨h, trivial⟩
  | cons y l => exact ⟨h.1, h.2.2⟩
theorem mulM {M : Int} (h : 0 ≤ M) {a b : Nat} (hab : a ≤ b) : (a : Int) * M ≤ (b : Int) * M := Int.mul_le_mul_of_nonneg_right (by omega) h
theorem Crs.Ok.small {g : Crs} (h : g.Ok) {k : Nat} (hk : k ≤ g.T) : (k : Int) * g.M < NV := by
  have := mulM h.M0 hk
  have := h.TM
  omega
theorem Crs.onw_bd {g : Crs} (h : g.Ok) : ∀ k x, k + 1 ≤ g.T → g.onw k x = NV ∨ 0 ≤ g.onw k x ∧ g.onw k x ≤ ((k + 1 : Nat) : Int) * g.M
  | 0, x, _ => by
    rcases h.cost (g.T - 1) x with h1 | h1
    · exact .inl h1
    · exact .inr ⟨h1.1, by unfold onw; simp; exact h1.2⟩
  | k + 1, x, hk => by
    unfold onw
    have hs := h.small (k := k + 1 + 1) hk
    have e : ((k + 1 + 1 : Nat) : Int) * g.M = ((k + 1 : Nat) : Int) * g.M + g.M := by rw [Int.natCast_add (k + 1) 1, Int.add_mul]; simp
    rcases h.cost (g.T - 1 - (k + 1)) x with h1 | h1
    · left
      have h3 := g.mins_att (g.onw k) x g.n
      have : 0 ≤ g.mins (g.onw k) x g.n := by
        rcases h3 with h3 | ⟨y, _, _, h3⟩
        · rw [h3]; decide
        · have h2 := Crs.onw_bd h k y (by omega)
          have : (0 : Int) ≤ NV := by decide
          omega
      omega
    · rcases g.mins_att (g.onw k) x g.n with h3 | ⟨y, _, _, h3⟩
      · left
        omega
      · rw [← h3]
        rcases Crs.onw_bd h k y (by omega) with h2 | h2
        · left; omega
        · right; omega
theorem Crs.onw_le {g : Crs} (h : g.Ok) : ∀ k x l, k + 1 ≤ g.T → l.length = k → g.isC (x :: l) → g.can (g.T - 1 - k) (x :: l) → g.onw k x ≤ g.tot (g.T - 1 - k) (x :: l)
  | 0, x, l, hk, hl, _, _ => by
    have := List.eq_nil_of_length_eq_zero hl
    subst this
    unfold onw tot tot
    simp
  | k + 1, x, l, hk, hl, hc, ha => by
    cases l with
    | nil => simp at hl
    | cons y l =>
      have hy := (Crs.isC_tail hc.2.2).1
      have h1 := Crs.onw_le h k y l (by omega) (by simpa using hl) hc.2.2 (by
        have := ha.2
        rwa [show g.T - 1 - (k + 1) + 1 = g.T - 1 - k by omega] at this)
      have h2 := g.mins_le (g.onw k) x hc.2.1 g.n hy
      unfold onw tot
      rw [show g.T - 1 - (k + 1) + 1 = g.T - 1 - k by omega]
      omega
theorem Crs.onw_att {g : Crs} (h : g.Ok) : ∀ k x, k + 1 ≤ g.T → x < g.n → g.onw k x < NV → ∃ l, l.length = k ∧ g.isC (x :: l) ∧ g.can (g.T - 1 - k) (x :: l) ∧ g.tot (g.T - 1 - k) (x :: l) = g.onw k x
  | 0, x, hk, hx, hv => ⟨[], rfl, hx, ⟨hv, trivial⟩, by unfold onw tot tot; simp⟩
  | k + 1, x, hk, hx, hv => by
    unfold onw at hv ⊢
    have hmt := g.mins_top (g.onw k) x g.n
    have hc := h.cost (g.T - 1 - (k + 1)) x
    have hm0 : 0 ≤ g.mins (g.onw k) x g.n := by
      rcases g.mins_att (g.onw k) x g.n with h3 | ⟨y, _, _, h3⟩
      · rw [h3]; decide
      · have h2 := Crs.onw_bd h k y (by omega)
        have : (0 : Int) ≤ NV := by decide
        omega
    have hnv : (0 : Int) ≤ NV := by decide
    have hcl : g.cost (g.T - 1 - (k + 1)) x < NV := by omega
    rcases g.mins_att (g.onw k) x g.n with h3 | ⟨y, hy, hn, h3⟩
    · omega
    · obtain ⟨l, a1, a2, a3, a4⟩ := Crs.onw_att h k y (by omega) hy (by omega)
      have e : g.T - 1 - (k + 1) + 1 = g.T - 1 - k := by omega
      refine ⟨y :: l, by simp [a1], ⟨hx, hn, a2⟩, ⟨hcl, by rw [e]; exact a3⟩, ?_⟩
      rw [tot, e, a4, h3]
      omega
end Go.SX

namespace Go.SX
set_option linter.unusedSimpArgs false
set_option linter.unusedVariables false
def zs (l : List Nat) : List Int := l.map fun (i : Nat) => (i : Int)
def fstC (p : Nat → Bool) (n : Nat) : Option Nat := (List.range n).find? p
theorem fstC_some {p : Nat → Bool} {n y : Nat} (h : fstC p n = some y) : p y = true ∧ y < n ∧ ∀ z, z < y → p z = false := by
  obtain ⟨h1, h2, h3⟩ := List.find?_range_eq_some.1 h
  exact ⟨h1, List.mem_range.1 h2, fun z hz => by simpa using h3 z hz⟩
theorem fstC_hit {p : Nat → Bool} {n y : Nat} (hy : y < n) (hp : p y = true) : ∃ z, fstC p n = some z ∧ z ≤ y := by
  cases h : fstC p n with
  | none =>
    have := List.find?_eq_none.1 h y (List.mem_range.2 hy)
    exact absurd hp this
  | some z =>
    obtain ⟨_, _, h3⟩ := fstC_some h
    refine ⟨z, rfl, Nat.le_of_not_lt fun hlt => ?_⟩
    rw [h3 y hlt] at hp
    cases hp
def Crs.grd (g : Crs) : Nat → Nat → Int → List Nat
  | 0, _, _ => []
  | k + 1, x, left => match fstC (fun y => g.nr x y && decide (g.onw k y = left)) g.n with
    | some y => y :: g.grd k y (left - g.cost (g.T - 1 - k) y)
    | none => []
theorem Crs.onw_parts {g : Crs} (h : g.Ok) {k x : Nat} (hk : k + 1 + 1 ≤ g.T) (hv : g.onw (k + 1) x < NV) : g.mins (g.onw k) x g.n = g.onw (k + 1) x - g.cost (g.T - 1 - (k + 1)) x ∧ ∃ y, y < g.n ∧ g.nr x y = true ∧ g.onw k y = g.onw (k + 1) x - g.cost (g.T - 1 - (k + 1)) x ∧ g.onw k y < NV := by
  have hnv : (0 : Int) ≤ NV := by decide
  have hc := h.cost (g.T - 1 - (k + 1)) x
  have hm := g.mins_top (g.onw k) x g.n
  have e : g.onw (k + 1) x = min NV (g.cost (g.T - 1 - (k + 1)) x + g.mins (g.onw k) x g.n) := rfl
  rcases g.mins_att (g.onw k) x g.n with h3 | ⟨y, hy, hn, h3⟩
  · omega
  · have hb := Crs.onw_bd h k y (by omega)
    exact ⟨by omega, y, hy, hn, by omega, by omega⟩
theorem Crs.grd_ok {g : Crs} (h : g.Ok) : ∀ k x, k + 1 ≤ g.T → x < g.n → g.onw k x < NV → (g.grd k x (g.onw k x - g.cost (g.T - 1 - k) x)).length = k ∧ g.isC (x :: g.grd k x (g.onw k x - g.cost (g.T - 1 - k) x)) ∧ g.can (g.T - 1 - k) (x :: g.grd k x (g.onw k x - g.cost (g.T - 1 - k) x)) ∧ g.tot (g.T - 1 - k) (x :: g.grd k x (g.onw k x - g.cost (g.T - 1 - k) x)) = g.onw k x
  | 0, x, hk, hx, hv => by
    unfold grd
    exact ⟨rfl, hx, ⟨hv, trivial⟩, by unfold onw tot tot; simp⟩
  | k + 1, x, hk, hx, hv => by
    have hnv : (0 : Int) ≤ NV := by decide
    obtain ⟨hm, y0, hy0, hn0, he0, hl0⟩ := Crs.onw_parts h hk hv
    obtain ⟨y, hy, _⟩ := fstC_hit (p := fun y => g.nr x y && decide (g.onw k y = g.onw (k + 1) x - g.cost (g.T - 1 - (k + 1)) x)) hy0 (by simp [hn0, he0])
    obtain ⟨p1, p2, _⟩ := fstC_some hy
    rw [Bool.and_eq_true, decide_eq_true_eq] at p1
    have hyv : g.onw k y < NV := by omega
    obtain ⟨a1, a2, a3, a4⟩ := Crs.grd_ok h k y (by omega) p2 hyv
    have hc := h.cost (g.T - 1 - (k + 1)) x
    have hb := Crs.onw_bd h k y (by omega)
    have e : g.T - 1 - (k + 1) + 1 = g.T - 1 - k := by omega
    unfold grd
    rw [hy]
    simp only []
    rw [← p1.2]
    refine ⟨by rw [List.length_cons, a1], ⟨hx, p1.1, a2⟩, ⟨by omega, by rw [e]; exact a3⟩, ?_⟩
    rw [tot, e, a4]
    omega
theorem Crs.grd_first {g : Crs} (h : g.Ok) : ∀ k x l, k + 1 ≤ g.T → l.length = k → g.isC (x :: l) → g.can (g.T - 1 - k) (x :: l) → g.onw k x < NV → g.tot (g.T - 1 - k) (x :: l) = g.onw k x → lexB (zs l) (zs (g.grd k x (g.onw k x - g.cost (g.T - 1 - k) x))) = false
  | 0, x, l, hk, hl, _, _, _, _ => by
    have := List.eq_nil_of_length_eq_zero hl
    subst this
    rfl
  | k + 1, x, l, hk, hl, hc, ha, hv, ht => by
    cases l with
    | nil => simp at hl
    | cons y' l =>
      have hnv : (0 : Int) ≤ NV := by decide
      obtain ⟨hm, _⟩ := Crs.onw_parts h hk hv
      have e : g.T - 1 - (k + 1) + 1 = g.T - 1 - k := by omega
      have ha2 : g.can (g.T - 1 - k) (y' :: l) := by rw [← e]; exact ha.2
      have hy' := (Crs.isC_tail hc.2.2).1
      have h1 := Crs.onw_le h k y' l (by omega) (by simpa using hl) hc.2.2 ha2
      have h2 := g.mins_le (g.onw k) x hc.2.1 g.n hy'
      rw [tot, e] at ht
      have h3 : g.onw k y' = g.onw (k + 1) x - g.cost (g.T - 1 - (k + 1)) x := by omega
      obtain ⟨y, hy, hle⟩ := fstC_hit (p := fun y => g.nr x y && decide (g.onw k y = g.onw (k + 1) x - g.cost (g.T - 1 - (k + 1)) x)) hy' (by simp [hc.2.1, h3])
      obtain ⟨p1, p2, _⟩ := fstC_some hy
      rw [Bool.and_eq_true, decide_eq_true_eq] at p1
      unfold grd
      rw [hy]
      simp only [zs, List.map_cons, lexB]
      by_cases ey : y' = y
      · subst ey
        rw [if_pos rfl, ← h3]
        have hc2 := h.cost (g.T - 1 - (k + 1)) x
        have hb := Crs.onw_bd h k y' (by omega)
        exact Crs.grd_first h k y' l (by omega) (by simpa using hl) hc.2.2 ha2 (by omega) (by omega)
      · rw [if_neg (by omega), decide_eq_false_iff_not]
        omega
def Crs.leastC (g : Crs) (m : Nat) : Int := match m with
  | 0 => NV
  | m + 1 => min (g.leastC m) (g.onw (g.T - 1) m)
theorem Crs.leastC_le (g : Crs) {x : Nat} : ∀ m, x < m → g.leastC m ≤ g.onw (g.T - 1) x
  | 0, h => by omega
  | m + 1, h => by
    unfold leastC
    by_cases e : x = m
    · subst e; omega
    · have := g.leastC_le m (x := x) (by omega)
      omega
theorem Crs.leastC_att (g : Crs) : ∀ m, g.leastC m = NV ∨ ∃ x, x < m ∧ g.onw (g.T - 1) x = g.leastC m
  | 0 => .inl rfl
  | m + 1 => by
    unfold leastC
    by_cases e : g.onw (g.T - 1) m < g.leastC m
    · exact .inr ⟨m, by omega, by omega⟩
    · rcases g.leastC_att m with h | ⟨x, h1, h2⟩
      · exact .inl (by omega)
      · exact .inr ⟨x, by omega, by omega⟩
theorem Crs.leastC_top (g : Crs) : ∀ m, g.leastC m ≤ NV
  | 0 => Int.le_refl _
  | m + 1 => by have := g.leastC_top m; unfold leastC; omega
def Crs.least (g : Crs) : Int := g.leastC g.n
def Crs.first (g : Crs) : List Nat := match fstC (fun x => decide (g.onw (g.T - 1) x = g.least)) g.n with
  | some x => x :: g.grd (g.T - 1) x (g.least - g.cost 0 x)
  | none => []
def Crs.Course (g : Crs) (L : List Nat) : Prop := L.length = g.T ∧ g.isC L ∧ g.can 0 L
theorem Crs.least_le {g : Crs} (h : g.Ok) {L : List Nat} (hL : g.Course L) : g.least ≤ g.tot 0 L := by
  obtain ⟨h1, h2, h3⟩ := hL
  have hT := h.T1
  cases L with
  | nil => simp at h1; omega
  | cons x l =>
    have hx := (Crs.isC_tail h2).1
    rw [List.length_cons] at h1
    have := Crs.onw_le h (g.T - 1) x l (by omega) (by omega) h2 (by rw [Nat.sub_self]; exact h3)
    rw [Nat.sub_self] at this
    have := g.leastC_le g.n hx
    unfold least
    omega
theorem Crs.tot_small {g : Crs} (h : g.Ok) : ∀ (L : List Nat) (t : Nat), g.can t L → 0 ≤ g.tot t L ∧ g.tot t L ≤ (L.length : Int) * g.M
  | [], t, _ => by simp [tot]
  | x :: l, t, ha => by
    have h1 := Crs.tot_small h l (t + 1) ha.2
    have h2 := ha.1
    have e : ((l.length + 1 : Nat) : Int) * g.M = (l.length : Int) * g.M + g.M := by rw [Int.natCast_add l.length 1, Int.add_mul]; simp
    rw [tot, List.length_cons, e]
    rcases h.cost t x with h3 | h3 <;> omega
theorem Crs.least_lt {g : Crs} (h : g.Ok) : g.least < NV ↔ ∃ L, g.Course L := by
  have hT := h.T1
  constructor
  · intro hv
    unfold least at hv
    rcases g.leastC_att g.n with h1 | ⟨x, h1, h2⟩
    · omega
    · obtain ⟨l, a1, a2, a3, a4⟩ := Crs.onw_att h (g.T - 1) x (by omega) h1 (by omega)
      rw [Nat.sub_self] at a3
      exact ⟨x :: l, by rw [List.length_cons]; omega, a2, a3⟩
  · rintro ⟨L, hL⟩
    have h1 := Crs.least_le h hL
    have h2 := Crs.tot_small h L 0 hL.2.2
    rw [hL.1] at h2
    have := h.TM
    omega
theorem Crs.first_ok {g : Crs} (h : g.Ok) (hv : g.least < NV) : g.Course g.first ∧ g.tot 0 g.first = g.least ∧ ∀ L, g.Course L → g.tot 0 L = g.least → lexB (zs L) (zs g.first) = false := by
  have hT := h.T1
  obtain ⟨x0, hx0, he0⟩ : ∃ x, x < g.n ∧ g.onw (g.T - 1) x = g.least := by
    unfold least at hv ⊢
    rcases g.leastC_att g.n with h1 | h1
    · omega
    · exact h1
  obtain ⟨x, hx, _⟩ := fstC_hit (p := fun x => decide (g.onw (g.T - 1) x = g.least)) hx0 (decide_eq_true he0)
  obtain ⟨p1, p2, p3⟩ := fstC_some hx
  have p1 := of_decide_eq_true p1
  have hg := Crs.grd_ok h (g.T - 1) x (by omega) p2 (by omega)
  rw [Nat.sub_self, p1] at hg
  have hf : g.first = x :: g.grd (g.T - 1) x (g.least - g.cost 0 x) := by unfold first; rw [hx]
  rw [hf]
  refine ⟨⟨by rw [List.length_cons, hg.1]; omega, hg.2.1, hg.2.2.1⟩, hg.2.2.2, fun L hL ht => ?_⟩
  cases L with
  | nil => rfl
  | cons y l =>
    obtain ⟨b1, b2, b3⟩ := hL
    rw [List.length_cons] at b1
    have hy := (Crs.isC_tail b2).1
    have hle := Crs.onw_le h (g.T - 1) y l (by omega) (by omega) b2 (by rw [Nat.sub_self]; exact b3)
    rw [Nat.sub_self] at hle
    have hge := g.leastC_le g.n hy
    have hye : g.onw (g.T - 1) y = g.least := by unfold least at ht hv ⊢; omega
    simp only [zs, List.map_cons, lexB]
    by_cases e : y = x
    · subst e
      rw [if_pos rfl]
      have := Crs.grd_first h (g.T - 1) y l (by omega) (by omega) b2 (by rw [Nat.sub_self]; exact b3) (by omega) (by rw [Nat.sub_self]; omega)
      rw [Nat.sub_self, hye] at this
      exact this
    · rw [if_neg (by omega), decide_eq_false_iff_not]
      intro hlt
      have := p3 y (by omega)
      rw [decide_eq_false_iff_not] at this
      exact this hye
end Go.SX

namespace Go.SX
set_option linter.unusedSimpArgs false
set_option linter.unusedVariables false
structure Rps where
  m : Nat
  tick : Nat → Nat
  fit : Nat → Nat → Bool
def Rps.off (r : Rps) (t x i : Nat) : Bool := decide (r.tick i = t) && !r.fit i x
def Rps.sum (r : Rps) (p : Nat → Int) (t x : Nat) : Nat → Int
  | 0 => 0
  | i + 1 => if r.off t x i then min NV (r.sum p t x i + p i) else r.sum p t x i
def Rps.cost (r : Rps) (may : Nat → Nat → Bool) (p : Nat → Int) (t x : Nat) : Int := if may t x then r.sum p t x r.m else NV
def priceOk (W : Int) (p : Nat → Int) : Prop := ∀ i, p i = NV ∨ 0 ≤ p i ∧ p i ≤ W
theorem Rps.sum_bd (r : Rps) {W : Int} {p : Nat → Int} (hp : priceOk W p) (hW : 0 ≤ W) (t x : Nat) : ∀ i : Nat, (i : Int) * W < NV → r.sum p t x i = NV ∨ 0 ≤ r.sum p t x i ∧ r.sum p t x i ≤ (i : Int) * W
  | 0, _ => .inr ⟨Int.le_refl _, by simp [sum]⟩
  | i + 1, hi => by
    have e : ((i + 1 : Nat) : Int) * W = (i : Int) * W + W := by rw [Int.natCast_add i 1, Int.add_mul]; simp
    have hnv : (0 : Int) ≤ NV := by decide
    have h1 := r.sum_bd hp hW t x i (by omega)
    have h2 := hp i
    unfold sum
    split <;> omega
theorem Rps.sum_all (r : Rps) {W : Int} {p : Nat → Int} (hp : priceOk W p) (hW : 0 ≤ W) (t x : Nat) : ∀ i : Nat, (i : Int) * W < NV → (r.sum p t x i = NV ↔ ∃ j, j < i ∧ r.off t x j = true ∧ p j = NV)
  | 0, _ => ⟨fun h => by unfold sum NV at h; omega, fun ⟨j, h, _⟩ => by omega⟩
  | i + 1, hi => by
    have e : ((i + 1 : Nat) : Int) * W = (i : Int) * W + W := by rw [Int.natCast_add i 1, Int.add_mul]; simp
    have hnv : (0 : Int) ≤ NV := by decide
    have ih := r.sum_all hp hW t x i (by omega)
    have h1 := r.sum_bd hp hW t x i (by omega)
    have h2 := hp i
    unfold sum
    by_cases ho : r.off t x i = true
    · rw [if_pos ho]
      constructor
      · intro h
        by_cases hs : r.sum p t x i = NV
        · obtain ⟨j, a, b⟩ := ih.1 hs
          exact ⟨j, by omega, b⟩
        · exact ⟨i, by omega, ho, by omega⟩
      · rintro ⟨j, a, b, c⟩
        by_cases ej : j = i
        · subst ej
          omega
        · have := ih.2 ⟨j, by omega, b, c⟩
          omega
    · rw [if_neg ho, ih]
      constructor
      · rintro ⟨j, a, b⟩
        exact ⟨j, by omega, b⟩
      · rintro ⟨j, a, b, c⟩
        by_cases ej : j = i
        · subst ej
          exact absurd b ho
        · exact ⟨j, by omega, b, c⟩
theorem Rps.cost_bd (r : Rps) {W : Int} {p : Nat → Int} (hp : priceOk W p) (hW : 0 ≤ W) (hm : (r.m : Int) * W < NV) (may : Nat → Nat → Bool) (t x : Nat) : r.cost may p t x = NV ∨ 0 ≤ r.cost may p t x ∧ r.cost may p t x ≤ (r.m : Int) * W := by
  unfold cost
  split
  · exact r.sum_bd hp hW t x r.m hm
  · exact .inl rfl
theorem Rps.cost_lt (r : Rps) {W : Int} {p : Nat → Int} (hp : priceOk W p) (hW : 0 ≤ W) (hm : (r.m : Int) * W < NV) (may : Nat → Nat → Bool) (t x : Nat) : r.cost may p t x < NV ↔ may t x = true ∧ ∀ j, j < r.m → r.off t x j = true → p j ≠ NV := by
  have h1 := r.sum_all hp hW t x r.m hm
  have h2 := r.sum_bd hp hW t x r.m hm
  unfold cost
  by_cases h : may t x = true
  · rw [if_pos h]
    constructor
    · intro hlt
      exact ⟨h, fun j hj ho hn => by have := h1.2 ⟨j, hj, ho, hn⟩; omega⟩
    · rintro ⟨_, h3⟩
      have : r.sum p t x r.m ≠ NV := fun hn => by
        obtain ⟨j, a, b, c⟩ := h1.1 hn
        exact h3 j a b c
      omega
  · rw [if_neg h]
    constructor
    · intro hlt
      omega
    · exact fun h3 => absurd h3.1 h
def priceOf (count must : Nat → Bool) (w : Nat → Int) (i : Nat) : Int := if count i then (if must i then NV else w i) else 0
theorem priceOf_ok {count must : Nat → Bool} {w : Nat → Int} {W : Int} (hW : 0 ≤ W) (h : ∀ i, must i = false → 0 ≤ w i ∧ w i ≤ W) : priceOk W (priceOf count must w) := fun i => by
  unfold priceOf
  split
  · split
    · exact .inl rfl
    · rename_i h1
      exact .inr (h i (by simpa using h1))
  · exact .inr ⟨Int.le_refl _, hW⟩
def Rps.own (r : Rps) (count must : Nat → Bool) (w : Nat → Int) (t x : Nat) : Nat → Option Int
  | 0 => some 0
  | i + 1 => match r.own count must w t x i with
    | none => none
    | some n => if count i && r.off t x i then (if must i then none else some (n + w i)) else some n
theorem Rps.own_sum (r : Rps) {count must : Nat → Bool} {w : Nat → Int} {W : Int} (hW : 0 ≤ W) (h : ∀ i, must i = false → 0 ≤ w i ∧ w i ≤ W) (t x : Nat) : ∀ i : Nat, (i : Int) * W < NV → r.sum (priceOf count must w) t x i = (r.own count must w t x i).getD NV ∧ ∀ n, r.own count must w t x i = some n → 0 ≤ n ∧ n ≤ (i : Int) * W
  | 0, _ => ⟨rfl, fun n hn => by cases hn; exact ⟨Int.le_refl _, by simp⟩⟩
  | i + 1, hi => by
    have e : ((i + 1 : Nat) : Int) * W = (i : Int) * W + W := by rw [Int.natCast_add i 1, Int.add_mul]; simp
    have hnv : (0 : Int) ≤ NV := by decide
    obtain ⟨h1, h2⟩ := r.own_sum (count := count) hW h t x i (by omega)
    generalize ((i + 1 : Nat) : Int) * W = A at hi e ⊢
    generalize (i : Int) * W = B at e h2
    unfold sum own
    rw [h1]
    cases ho : r.own count must w t x i with
    | none =>
      simp only [Option.getD_none]
      have hp := priceOf_ok (count := count) hW h i
      refine ⟨?_, fun n hn => by cases hn⟩
      split <;> omega
    | some n =>
      have hn := h2 n ho
      simp only [Option.getD_some]
      cases hc : count i <;> cases hf : r.off t x i <;> cases hm : must i <;> (try have hw := h i hm) <;> simp [priceOf, hc, hm] <;> omega
end Go.SX

namespace Go.SX
set_option linter.unusedSimpArgs false
set_option linter.unusedVariables false
theorem Crs.can_all (g : Crs) : ∀ (L : List Nat) (t : Nat), g.can t L ↔ ∀ j, j < L.length → g.cost (t + j) (L.getD j 0) < NV
  | [], t => ⟨fun _ j h => absurd h (Nat.not_lt_zero _), fun _ => trivial⟩
  | x :: l, t => by
    rw [can, Crs.can_all g l (t + 1)]
    constructor
    · rintro ⟨h1, h2⟩ j hj
      cases j with
      | zero => simpa using h1
      | succ j =>
        rw [List.length_cons] at hj
        have := h2 j (by omega)
        rw [List.getD_cons_succ, show t + (j + 1) = t + 1 + j by omega]
        exact this
    · intro h
      refine ⟨by simpa using h 0 (by simp), fun j hj => ?_⟩
      have := h (j + 1) (by rw [List.length_cons]; omega)
      rw [List.getD_cons_succ, show t + (j + 1) = t + 1 + j by omega] at this
      exact this
end Go.SX

namespace Go.SX
set_option linter.unusedSimpArgs false
set_option linter.unusedVariables false
set_option maxRecDepth 10000
def RefI (P : List Int → Bool) (n s : Nat) (found : Bool) (b : List Int) : Prop :=
  (found = false ∧ b = [] ∧ ∀ s', s' < s → P (pick s'.testBit n) = false) ∨ (found = true ∧ b.Sublist (idx n) ∧ P b = true ∧ ∀ s', s' < s → P (pick s'.testBit n) = true → befB (pick s'.testBit n) b = false)
theorem RefI.zero (P : List Int → Bool) (n : Nat) : RefI P n 0 false [] := .inl ⟨rfl, rfl, fun s' h => by omega⟩
theorem RefI.no {P : List Int → Bool} {n s : Nat} {found : Bool} {b : List Int} (h : RefI P n s found b) (hP : P (pick s.testBit n) = false) : RefI P n (s + 1) found b := by
  rcases h with ⟨a1, a2, a3⟩ | ⟨a1, a2, a3, a4⟩
  · refine .inl ⟨a1, a2, fun s' hs => ?_⟩
    by_cases e : s' = s
    · rw [e]; exact hP
    · exact a3 s' (by omega)
  · refine .inr ⟨a1, a2, a3, fun s' hs hp => ?_⟩
    by_cases e : s' = s
    · rw [e, hP] at hp; cases hp
    · exact a4 s' (by omega) hp
def orS (s : Nat) (y : List Int) : Nat := y.foldl (fun s i => s ||| 2 ^ i.toNat) s
theorem orS10 : ∀ s : Fin 1024, orS 0 (pick s.val.testBit 10) = s.val := by decide +kernel
theorem pick_up {s n m : Nat} (hs : s < 2 ^ n) (h : n ≤ m) : pick s.testBit m = pick s.testBit n := by
  induction m with
  | zero => have : n = 0 := by omega
            subst this; rfl
  | succ m ih =>
    by_cases e : n = m + 1
    · rw [e]
    · rw [pick_succ, ih (by omega), Nat.testBit_lt_two_pow (Nat.lt_of_lt_of_le hs (Nat.pow_le_pow_right (by decide) (by omega)))]
      simp
theorem sub_orS {n : Nat} (hn : n ≤ 10) {y : List Int} (hy : y.Sublist (idx n)) : orS 0 y < 2 ^ n ∧ orS 0 y < 1024 ∧ pick (orS 0 y).testBit 10 = y ∧ pick (orS 0 y).testBit n = y := by
  obtain ⟨s, hs, h⟩ := sub_pick hy
  have h1 := pick_up hs hn
  have h2 : s < 1024 := Nat.lt_of_lt_of_le hs (Nat.le_trans (Nat.pow_le_pow_right (by decide) hn) (by decide))
  have h3 := orS10 ⟨s, h2⟩
  simp only [] at h3
  rw [h1, h] at h3
  rw [h3]
  exact ⟨hs, h2, by rw [h1, h], h⟩
end Go.SX

namespace Go.SX
set_option linter.unusedSimpArgs false
set_option linter.unusedVariables false
structure Crs.Same (g h : Crs) : Prop where
  n : g.n = h.n
  T : g.T = h.T
  nr : ∀ x y, x < g.n → y < g.n → g.nr x y = h.nr x y
  cost : ∀ t x, x < g.n → g.cost t x = h.cost t x
theorem Crs.Same.mins {g h : Crs} (s : g.Same h) {r r' : Nat → Int} (hr : ∀ y, y < g.n → r y = r' y) {x : Nat} (hx : x < g.n) : ∀ m, m ≤ g.n → g.mins r x m = h.mins r' x m
  | 0, _ => rfl
  | m + 1, hm => by
    have ih := s.mins hr hx m (by omega)
    unfold Crs.mins
    rw [ih, s.nr x m hx (by omega), hr m (by omega)]
theorem Crs.Same.onw {g h : Crs} (s : g.Same h) : ∀ k x, x < g.n → g.onw k x = h.onw k x
  | 0, x, hx => by unfold Crs.onw; rw [s.T, s.cost _ _ hx]
  | k + 1, x, hx => by
    unfold Crs.onw
    rw [s.T, s.cost _ _ hx, s.mins (s.onw k) hx g.n (Nat.le_refl _), s.n]
theorem Crs.Same.leastC {g h : Crs} (s : g.Same h) : ∀ m, m ≤ g.n → g.leastC m = h.leastC m
  | 0, _ => rfl
  | m + 1, hm => by unfold Crs.leastC; rw [s.leastC m (by omega), s.T, s.onw _ m (by omega)]
theorem Crs.Same.least {g h : Crs} (s : g.Same h) : g.least = h.least := by
  unfold Crs.least
  rw [s.leastC g.n (Nat.le_refl _), s.n]
theorem fstC_congr {p q : Nat → Bool} {n : Nat} (h : ∀ x, x < n → p x = q x) : fstC p n = fstC q n := by
  have : ∀ l : List Nat, (∀ x ∈ l, p x = q x) → l.find? p = l.find? q := fun l => by
    induction l with
    | nil => exact fun _ => rfl
    | cons a l ih =>
      intro ha
      rw [List.find?_cons, List.find?_cons, ha a List.mem_cons_self, ih fun x hx => ha x (List.mem_cons_of_mem _ hx)]
  exact this _ fun x hx => h x (List.mem_range.1 hx)
theorem Crs.Same.grd {g h : Crs} (s : g.Same h) : ∀ k x left, x < g.n → g.grd k x left = h.grd k x left
  | 0, _, _, _ => rfl
  | k + 1, x, left, hx => by
    unfold Crs.grd
    rw [fstC_congr (q := fun y => h.nr x y && decide (h.onw k y = left)) fun y hy => by rw [s.nr x y hx hy, s.onw k y hy], s.n]
    cases hf : fstC (fun y => h.nr x y && decide (h.onw k y = left)) h.n with
    | none => rfl
    | some y =>
      have hy : y < g.n := by rw [s.n]; exact (fstC_some hf).2.1
      simp only []
      rw [s.T, s.cost _ y hy, s.grd k y _ hy]
theorem Crs.Same.first {g h : Crs} (s : g.Same h) : g.first = h.first := by
  unfold Crs.first
  rw [fstC_congr (q := fun x => decide (h.onw (h.T - 1) x = h.least)) fun x hx => by rw [s.T, s.onw _ x hx, s.least], s.n]
  cases hf : fstC (fun x => decide (h.onw (h.T - 1) x = h.least)) h.n with
  | none => rfl
  | some y =>
    have hy : y < g.n := by rw [s.n]; exact (fstC_some hf).2.1
    simp only []
    rw [s.T, s.least, s.cost _ y hy, s.grd _ y _ hy]
end Go.SX

namespace Go.SX
set_option linter.unusedSimpArgs false
set_option linter.unusedVariables false
set_option maxRecDepth 10000
def mskA (k : Nat) : List Nat → Nat → Nat
  | [], _ => 0
  | x :: l, i => (if x = i then 2 ^ k else 0) ||| mskA (k + 1) l i
def msk (l : List Nat) (i : Nat) : Nat := mskA 0 l i
theorem mskA_snoc (i x : Nat) : ∀ (l : List Nat) (k : Nat), mskA k (l ++ [x]) i = mskA k l i ||| (if x = i then 2 ^ (k + l.length) else 0)
  | [], k => by simp [mskA]
  | y :: l, k => by
    show (if y = i then 2 ^ k else 0) ||| mskA (k + 1) (l ++ [x]) i = ((if y = i then 2 ^ k else 0) ||| mskA (k + 1) l i) ||| _
    rw [mskA_snoc i x l (k + 1), Nat.or_assoc, List.length_cons, show k + 1 + l.length = k + (l.length + 1) by omega]
theorem msk_snoc (i x : Nat) (l : List Nat) : msk (l ++ [x]) i = if x = i then msk l i ||| 2 ^ l.length else msk l i := by
  unfold msk
  rw [mskA_snoc, Nat.zero_add]
  by_cases h : x = i
  · rw [if_pos h, if_pos h]
  · rw [if_neg h, if_neg h, Nat.or_zero]
theorem mskA_bit (i j : Nat) : ∀ (l : List Nat) (k : Nat), (mskA k l i).testBit j = decide (k ≤ j ∧ l[j - k]? = some i)
  | [], k => by simp [mskA]
  | x :: l, k => by
    show ((if x = i then 2 ^ k else 0) ||| mskA (k + 1) l i).testBit j = _
    rw [Nat.testBit_or, mskA_bit i j l (k + 1)]
    by_cases hk : j = k
    · subst hk
      rw [Nat.sub_self, List.getElem?_cons_zero]
      by_cases hx : x = i
      · rw [if_pos hx, Nat.testBit_two_pow_self]; simp [hx]
      · rw [if_neg hx]; simp [hx]; omega
    · have h1 : (if x = i then 2 ^ k else 0).testBit j = false := by
        split
        · rw [Nat.testBit_two_pow_of_ne (by omega)]
        · simp
      rw [h1, Bool.false_or]
      by_cases hle : k + 1 ≤ j
      · have : j - k = (j - (k + 1)) + 1 := by omega
        rw [this, List.getElem?_cons_succ]
        simp [hle, show k ≤ j by omega]
      · simp [hle, show ¬ k ≤ j by omega]
theorem msk_bit (l : List Nat) (i j : Nat) : (msk l i).testBit j = decide (l[j]? = some i) := by
  unfold msk
  rw [mskA_bit]
  simp
theorem msk_lt (l : List Nat) (i : Nat) : msk l i < 2 ^ l.length := by
  refine Nat.lt_pow_two_of_testBit _ fun j hj => ?_
  rw [msk_bit, List.getElem?_eq_none (by omega)]
  simp
def usd : List Nat → Nat
  | [] => 0
  | x :: l => max (x + 1) (usd l)
theorem usd_snoc (x : Nat) : ∀ l : List Nat, usd (l ++ [x]) = max (usd l) (x + 1)
  | [] => by simp [usd]
  | y :: l => by
    show max (y + 1) (usd (l ++ [x])) = max (max (y + 1) (usd l)) (x + 1)
    rw [usd_snoc x l]
    omega
theorem usd_lt : ∀ {l : List Nat} {x : Nat}, x ∈ l → x < usd l
  | y :: l, x, h => by
    show x < max (y + 1) (usd l)
    rcases List.mem_cons.1 h with rfl | h
    · omega
    · have := usd_lt h
      omega
theorem usd_le : ∀ {l : List Nat} {m : Nat}, (∀ x ∈ l, x < m) → usd l ≤ m
  | [], m, _ => Nat.zero_le _
  | y :: l, m, h => by
    show max (y + 1) (usd l) ≤ m
    have := h y List.mem_cons_self
    have := usd_le (l := l) (m := m) fun x hx => h x (List.mem_cons_of_mem _ hx)
    omega
def msks (l : List Nat) : List Nat := (List.range (usd l)).map (msk l)
theorem msks_len (l : List Nat) : (msks l).length = usd l := by unfold msks; rw [List.length_map, List.length_range]
theorem msk_none {l : List Nat} {i : Nat} (h : usd l ≤ i) : msk l i = 0 := by
  refine Nat.eq_of_testBit_eq fun j => ?_
  rw [msk_bit, Nat.zero_testBit, decide_eq_false_iff_not]
  intro hj
  have := usd_lt (List.mem_of_getElem? hj)
  omega
theorem msks_get {l : List Nat} {i : Nat} (h : i < usd l) : (msks l)[i]? = some (msk l i) := by
  unfold msks
  rw [List.getElem?_map, List.getElem?_range h]
  rfl
theorem msks_snoc {l : List Nat} {i : Nat} (hi : i ≤ usd l) : msks (l ++ [i]) = (if i = usd l then msks l ++ [0] else msks l).set i (msk (l ++ [i]) i) := by
  have hu : usd (l ++ [i]) = if i = usd l then usd l + 1 else usd l := by
    rw [usd_snoc]
    split <;> omega
  apply List.ext_getElem?
  intro j
  by_cases hj : j = i
  · subst hj
    rw [msks_get (by rw [hu]; split <;> omega), List.getElem?_set_self (by
      split
      · rw [List.length_append, msks_len, List.length_singleton]; omega
      · rw [msks_len]; omega)]
  · rw [List.getElem?_set_ne (fun h => hj h.symm)]
    have hm : msk (l ++ [i]) j = msk l j := by rw [msk_snoc, if_neg (fun h => hj h.symm)]
    by_cases hju : j < usd l
    · rw [msks_get (by rw [hu]; split <;> omega), hm]
      split
      · rw [List.getElem?_append_left (by rw [msks_len]; exact hju), msks_get hju]
      · rw [msks_get hju]
    · rw [List.getElem?_eq_none (by rw [msks_len, hu]; split <;> omega), List.getElem?_eq_none]
      split
      · rw [List.length_append, msks_len, List.length_singleton]; omega
      · rw [msks_len]; omega
def splL (can : Nat → Bool) (most : Nat) : Nat → List Nat → Option (List Nat)
  | 0, who => some who
  | f + 1, who => (List.range (min most (usd who + 1))).findSome? fun i => if can (msk (who ++ [i]) i) then splL can most f (who ++ [i]) else none
theorem splL_some {can : Nat → Bool} {most : Nat} : ∀ {f : Nat} {who r : List Nat}, splL can most f who = some r → ∃ t, r = who ++ t ∧ t.length = f
  | 0, who, r, h => by
    injection h with h
    exact ⟨[], by rw [h, List.append_nil], rfl⟩
  | f + 1, who, r, h => by
    obtain ⟨i, _, hi⟩ := List.exists_of_findSome?_eq_some h
    split at hi
    · obtain ⟨t, h1, h2⟩ := splL_some hi
      exact ⟨i :: t, by rw [h1, List.append_assoc]; rfl, by rw [List.length_cons, h2]⟩
    · cases hi
end Go.SX

namespace Go.SX
set_option linter.unusedSimpArgs false
set_option linter.unusedVariables false
set_option maxRecDepth 10000
theorem nodup_le : ∀ (m : Nat) (l : List Nat), l.Nodup → (∀ x ∈ l, x < m) → l.length ≤ m
  | 0, [], _, _ => Nat.le_refl _
  | 0, x :: l, _, h => absurd (h x List.mem_cons_self) (Nat.not_lt_zero _)
  | m + 1, l, hd, h => by
    by_cases hm : m ∈ l
    · have h1 := nodup_le m (l.erase m) (hd.erase m) fun x hx => by
        have := (hd.mem_erase_iff).1 hx
        have := h x this.2
        omega
      rw [List.length_erase_of_mem hm] at h1
      omega
    · have := nodup_le m l hd fun x hx => by
        have := h x hx
        have : x ≠ m := fun e => hm (e ▸ hx)
        omega
      omega
def Shr (can : Nat → Bool) (most : Nat) (l : List Nat) : Prop := (∀ n, n < usd l → can (msk l n) = true) ∧ (∀ j x, l[j]? = some x → x ≤ usd (l.take j)) ∧ usd l ≤ most
theorem Shr.nil (can : Nat → Bool) (most : Nat) : Shr can most [] := ⟨fun n h => absurd h (Nat.not_lt_zero _), fun j x h => by simp at h, Nat.zero_le _⟩
theorem Shr.more {can : Nat → Bool} {most : Nat} {l : List Nat} (h : Shr can most l) {i : Nat} (hi : i ≤ usd l) (hm : i < most) (hc : can (msk (l ++ [i]) i) = true) : Shr can most (l ++ [i]) := by
  refine ⟨fun n hn => ?_, fun j x hx => ?_, ?_⟩
  · by_cases e : n = i
    · rw [e]; exact hc
    · rw [msk_snoc, if_neg (fun h => e h.symm)]
      rw [usd_snoc] at hn
      exact h.1 n (by omega)
  · by_cases hj : j < l.length
    · rw [List.getElem?_append_left hj] at hx
      rw [List.take_append_of_le_length (by omega)]
      exact h.2.1 j x hx
    · have hj2 : j = l.length := by
        have := (List.getElem?_eq_some_iff.1 hx).1
        rw [List.length_append, List.length_singleton] at this
        omega
      subst hj2
      simp at hx
      subst hx
      rw [List.take_left']
      · exact hi
      · rfl
  · rw [usd_snoc]
    have := h.2.2
    omega
theorem splL_shr {can : Nat → Bool} {most : Nat} : ∀ {f : Nat} {who r : List Nat}, Shr can most who → splL can most f who = some r → Shr can most r
  | 0, who, r, hw, h => by
    injection h with h
    rwa [← h]
  | f + 1, who, r, hw, h => by
    obtain ⟨i, hr, hi⟩ := List.exists_of_findSome?_eq_some h
    rw [List.mem_range] at hr
    split at hi
    · rename_i hc
      exact splL_shr (hw.more (by omega) (by omega) hc) hi
    · cases hi
theorem splL_full {can : Nat → Bool} (hmono : ∀ S T : Nat, (∀ j, S.testBit j = true → T.testBit j = true) → can T = true → can S = true) {other : List Nat} (hcan : ∀ c ∈ other, can (msk other c) = true) {most : Nat} (hm : usd other ≤ most) :
    ∀ (f : Nat) (who ps : List Nat), who.length + f = other.length → ps.length = usd who → ps.Nodup → (∀ p ∈ ps, p ∈ other) → (∀ (k x : Nat), who[k]? = some x → ∃ c : Nat, other[k]? = some c ∧ ps[x]? = some c) → ∃ r, splL can most f who = some r
  | 0, who, ps, _, _, _, _, _ => ⟨who, rfl⟩
  | f + 1, who, ps, hl, hpl, hnd, hin, hps => by
    have hj : who.length < other.length := by omega
    obtain ⟨c, hc⟩ : ∃ c, other[who.length]? = some c := ⟨_, List.getElem?_eq_getElem hj⟩
    have hcm := List.mem_of_getElem? hc
    -- the number, and the list of casualties behind it
    obtain ⟨i, qs, hi, hil, hq, hqd, hqi, hqo, hqm⟩ : ∃ (i : Nat) (qs : List Nat), i ≤ usd who ∧ i < most ∧ qs.length = usd (who ++ [i]) ∧ qs.Nodup ∧ (∀ p ∈ qs, p ∈ other) ∧ (∀ (k d : Nat), ps[k]? = some d → qs[k]? = some d) ∧ qs[i]? = some c := by
      by_cases h : c ∈ ps
      · obtain ⟨i, hi⟩ := List.mem_iff_getElem?.1 h
        have hlt := (List.getElem?_eq_some_iff.1 hi).1
        have h1 := nodup_le most ps hnd fun x hx => by
          have := usd_lt (hin x hx)
          omega
        exact ⟨i, ps, by omega, by omega, by rw [usd_snoc]; omega, hnd, hin, fun _ _ h => h, hi⟩
      · have hnd2 : (ps ++ [c]).Nodup := by
          rw [List.nodup_append]
          refine ⟨hnd, by simp, fun a ha b hb => ?_⟩
          rw [List.mem_singleton] at hb
          subst hb
          exact fun e => h (e ▸ ha)
        have hin2 : ∀ p ∈ ps ++ [c], p ∈ other := fun p hp => by
          rcases List.mem_append.1 hp with h1 | h1
          · exact hin p h1
          · rw [List.mem_singleton.1 h1]; exact hcm
        have h1 := nodup_le most _ hnd2 fun x hx => by
          have := usd_lt (hin2 x hx)
          omega
        rw [List.length_append, List.length_singleton] at h1
        refine ⟨usd who, ps ++ [c], Nat.le_refl _, by omega, by rw [usd_snoc, List.length_append, List.length_singleton]; omega, hnd2, hin2, fun k d hk => ?_, by rw [← hpl]; simp⟩
        rw [List.getElem?_append_left (List.getElem?_eq_some_iff.1 hk).1]
        exact hk
    have hps2 : ∀ (k x : Nat), (who ++ [i])[k]? = some x → ∃ d : Nat, other[k]? = some d ∧ qs[x]? = some d := fun k x hx => by
      by_cases hk : k < who.length
      · rw [List.getElem?_append_left hk] at hx
        obtain ⟨d, h1, h2⟩ := hps k x hx
        exact ⟨d, h1, hqo x d h2⟩
      · have hk2 : k = who.length := by
          have := (List.getElem?_eq_some_iff.1 hx).1
          rw [List.length_append, List.length_singleton] at this
          omega
        subst hk2
        simp at hx
        subst hx
        exact ⟨c, hc, hqm⟩
    have hcc : can (msk (who ++ [i]) i) = true := by
      refine hmono _ _ (fun j hj => ?_) (hcan c hcm)
      rw [msk_bit, decide_eq_true_eq] at hj ⊢
      obtain ⟨d, h1, h2⟩ := hps2 j i hj
      rw [hqm] at h2
      rw [h1, h2]
    obtain ⟨r, hr⟩ := splL_full hmono hcan hm f (who ++ [i]) qs (by rw [List.length_append, List.length_singleton]; omega) hq hqd hqi hps2
    cases h : splL can most (f + 1) who with
    | some r => exact ⟨r, rfl⟩
    | none =>
      have h1 := List.findSome?_eq_none_iff.1 h i (by rw [List.mem_range]; omega)
      rw [if_pos hcc, hr] at h1
      cases h1
def srcL (can : Nat → Bool) (m : Nat) : Option (List Nat) := (List.range (m + 1)).findSome? fun most => splL can most m []
theorem src_ok {can : Nat → Bool} {m : Nat} {r : List Nat} (h : srcL can m = some r) : ∃ most, most ≤ m ∧ r.length = m ∧ Shr can most r ∧ ∀ k, k < most → splL can k m [] = none := by
  unfold srcL at h
  have hk : ∃ most, most ≤ m ∧ splL can most m [] = some r ∧ ∀ k, k < most → splL can k m [] = none := by
    have : ∀ n, (List.range n).findSome? (fun most => splL can most m []) = some r → ∃ most, most < n ∧ splL can most m [] = some r ∧ ∀ k, k < most → splL can k m [] = none := fun n => by
      induction n with
      | zero => intro h; simp at h
      | succ n ih =>
        intro h
        rw [List.range_succ, List.findSome?_append] at h
        cases h1 : (List.range n).findSome? fun most => splL can most m [] with
        | some y =>
          rw [h1] at h
          obtain ⟨k, h2, h3⟩ := ih (by rw [h1]; exact h)
          exact ⟨k, by omega, h3⟩
        | none =>
          rw [h1] at h
          refine ⟨n, by omega, by simpa using h, fun k hk => ?_⟩
          exact List.findSome?_eq_none_iff.1 h1 k (List.mem_range.2 hk)
    obtain ⟨k, h1, h2⟩ := this _ h
    exact ⟨k, by omega, h2⟩
  obtain ⟨most, h1, h2, h3⟩ := hk
  obtain ⟨t, h4, h5⟩ := splL_some h2
  exact ⟨most, h1, by rw [h4, List.nil_append]; exact h5, splL_shr (Shr.nil _ _) h2, h3⟩
theorem src_full {can : Nat → Bool} (hmono : ∀ S T : Nat, (∀ j, S.testBit j = true → T.testBit j = true) → can T = true → can S = true) {other : List Nat} (hcan : ∀ c ∈ other, can (msk other c) = true) (hle : usd other ≤ other.length) : ∃ r, srcL can other.length = some r ∧ usd r ≤ usd other := by
  obtain ⟨r0, h0⟩ := splL_full hmono hcan (Nat.le_refl (usd other)) other.length [] [] (by simp) rfl List.nodup_nil (fun _ h => by cases h) (fun k x h => by simp at h)
  cases h : srcL can other.length with
  | none =>
    have := List.findSome?_eq_none_iff.1 h (usd other) (by rw [List.mem_range]; omega)
    rw [h0] at this
    cases this
  | some r =>
    refine ⟨r, rfl, ?_⟩
    obtain ⟨most, h1, h2, h3, h4⟩ := src_ok h
    have : most ≤ usd other := by
      apply Nat.le_of_not_lt
      intro hlt
      rw [h4 _ hlt] at h0
      cases h0
    have := h3.2.2
    omega
end Go.SX

