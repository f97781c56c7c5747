/- Parts of a proof: the symbolic walk and what it shows of single functions. -/
import Derived.Test.YtnbogcpnpcbjgaaGreatDoorX3
import Derived.DeepKeys5
import Derived.WideKeyPair
import Derived.Test.YtnbogcpnpcbjgaaGreatDoorX2
set_option linter.all false
namespace Go.SX
open Go.RowKit
set_option linter.unusedSimpArgs false
set_option linter.unusedVariables false
def idx (n : Nat) : List Int := (List.range n).map fun (i : Nat) => (i : Int)
theorem idx_len (n : Nat) : (idx n).length = n := by unfold idx; rw [List.length_map, List.length_range]
def lexB : List Int → List Int → Bool
  | a :: x, b :: y => if a = b then lexB x y else decide (a < b)
  | _, _ => false
def befB (x y : List Int) : Bool := if x.length = y.length then lexB x y else decide (x.length < y.length)
theorem lexB_irr (x : List Int) : lexB x x = false := by
  induction x with
  | nil => rfl
  | cons a x ih => simp [lexB, ih]
theorem lexB_asym : ∀ {x y : List Int}, lexB x y = true → lexB y x = false := by
  intro x
  induction x with
  | nil => intro y h; simp [lexB] at h
  | cons a x ih =>
    intro y h
    cases y with
    | nil => simp [lexB] at h
    | cons b y =>
      simp only [lexB] at h ⊢
      by_cases e : a = b
      · subst e; simp only [if_true] at h ⊢; exact ih h
      · rw [if_neg e] at h; rw [if_neg (fun k => e k.symm)]
        simp only [decide_eq_true_eq, decide_eq_false_iff_not] at h ⊢
        omega
theorem lexB_trans : ∀ {x y z : List Int}, lexB x y = true → lexB y z = true → lexB x z = true := by
  intro x
  induction x with
  | nil => intro y z h; simp [lexB] at h
  | cons a x ih =>
    intro y z h h2
    cases y with
    | nil => simp [lexB] at h
    | cons b y =>
      cases z with
      | nil => simp [lexB] at h2
      | cons c z =>
        simp only [lexB] at h h2 ⊢
        by_cases e : a = b
        · subst e
          simp only [if_true] at h
          by_cases e2 : a = c
          · rw [if_pos e2] at h2 ⊢; exact ih h h2
          · rw [if_neg e2] at h2 ⊢; exact h2
        · rw [if_neg e, decide_eq_true_eq] at h
          by_cases e2 : b = c
          · subst e2; rw [if_neg e, decide_eq_true_eq]; exact h
          · rw [if_neg e2, decide_eq_true_eq] at h2
            rw [if_neg (by omega), decide_eq_true_eq]; omega
theorem lexB_tri : ∀ {x y : List Int}, x.length = y.length → lexB x y = false → lexB y x = false → x = y := by
  intro x
  induction x with
  | nil => intro y h _ _; exact (List.eq_nil_of_length_eq_zero h.symm).symm
  | cons a x ih =>
    intro y hl h h2
    cases y with
    | nil => simp at hl
    | cons b y =>
      simp only [lexB] at h h2
      by_cases e : a = b
      · subst e
        simp only [if_true] at h h2
        rw [ih (by simpa using hl) h h2]
      · rw [if_neg e, decide_eq_false_iff_not] at h
        rw [if_neg (fun k => e k.symm), decide_eq_false_iff_not] at h2
        omega
theorem befB_trans {x y z : List Int} (h : befB x y = true) (h2 : befB y z = true) : befB x z = true := by
  unfold befB at h h2 ⊢
  by_cases e1 : x.length = y.length
  · rw [if_pos e1] at h
    by_cases e2 : y.length = z.length
    · rw [if_pos e2] at h2; rw [if_pos (e1.trans e2)]; exact lexB_trans h h2
    · rw [if_neg e2, decide_eq_true_eq] at h2; rw [if_neg (by omega), decide_eq_true_eq]; omega
  · rw [if_neg e1, decide_eq_true_eq] at h
    by_cases e2 : y.length = z.length
    · rw [if_neg (by omega), decide_eq_true_eq]; omega
    · rw [if_neg e2, decide_eq_true_eq] at h2; rw [if_neg (by omega), decide_eq_true_eq]; omega
theorem befB_tri {x y : List Int} (h : befB x y = false) (h2 : befB y x = false) : x = y := by
  unfold befB at h h2
  by_cases e : x.length = y.length
  · rw [if_pos e] at h; rw [if_pos e.symm] at h2; exact lexB_tri e h h2
  · rw [if_neg e, decide_eq_false_iff_not] at h; rw [if_neg (fun k => e k.symm), decide_eq_false_iff_not] at h2; omega
theorem cmb_mem {α : Type} : ∀ {l : List α} {m : Nat} {x : List α}, x ∈ cmb m l ↔ x.Sublist l ∧ x.length = m := by
  intro l
  induction l with
  | nil =>
    intro m x
    cases m with
    | zero =>
      simp only [cmb, List.mem_singleton, List.sublist_nil]
      exact ⟨fun h => ⟨h, by rw [h]; rfl⟩, fun h => h.1⟩
    | succ m =>
      simp only [cmb, List.not_mem_nil, List.sublist_nil, false_iff]
      rintro ⟨rfl, h⟩
      cases h
  | cons a r ih =>
    intro m x
    cases m with
    | zero =>
      simp only [cmb, List.mem_singleton]
      exact ⟨fun h => by rw [h]; exact ⟨List.nil_sublist _, rfl⟩, fun h => List.eq_nil_of_length_eq_zero h.2⟩
    | succ m =>
      simp only [cmb, List.mem_append, List.mem_map]
      constructor
      · rintro (⟨y, hy, rfl⟩ | h)
        · have := ih.1 hy
          exact ⟨this.1.cons_cons a, by simp [this.2]⟩
        · have := ih.1 h
          exact ⟨this.1.cons a, this.2⟩
      · rintro ⟨h, hl⟩
        cases h with
        | cons _ h => exact .inr (ih.2 ⟨h, hl⟩)
        | cons_cons _ h => exact .inl ⟨_, ih.2 ⟨h, by simpa using hl⟩, rfl⟩
theorem cmb_sorted : ∀ {l : List Int} (m : Nat), l.Pairwise (· < ·) → (cmb m l).Pairwise fun x y => lexB x y = true := by
  intro l
  induction l with
  | nil =>
    intro m _
    cases m with
    | zero => exact List.pairwise_singleton _ _
    | succ m => exact List.Pairwise.nil
  | cons a r ih =>
    intro m h
    have h := List.pairwise_cons.1 h
    cases m with
    | zero => exact List.pairwise_singleton _ _
    | succ m =>
      refine List.pairwise_append.2 ⟨List.pairwise_map.2 ((ih m h.2).imp fun {x y} h => by simp [lexB, h]), ih (m + 1) h.2, fun x hx y hy => ?_⟩
      obtain ⟨x, _, rfl⟩ := List.mem_map.1 hx
      obtain ⟨hy1, hy2⟩ := cmb_mem.1 hy
      cases y with
      | nil => cases hy2
      | cons b y =>
        have := h.1 b (hy1.subset List.mem_cons_self)
        simp only [lexB]
        rw [if_neg (by omega), decide_eq_true_eq]
        exact this
theorem idx_succ (n : Nat) : idx (n + 1) = idx n ++ [(n : Int)] := by unfold idx; rw [List.range_succ, List.map_append]; rfl
theorem idx_mem {n : Nat} {i : Int} : i ∈ idx n ↔ 0 ≤ i ∧ i < n := by
  unfold idx
  rw [List.mem_map]
  constructor
  · rintro ⟨k, hk, rfl⟩
    rw [List.mem_range] at hk
    omega
  · intro h
    exact ⟨i.toNat, by rw [List.mem_range]; omega, by omega⟩
theorem idx_sorted (n : Nat) : (idx n).Pairwise (· < ·) := by
  induction n with
  | zero => exact List.Pairwise.nil
  | succ n ih =>
    rw [idx_succ]
    refine List.pairwise_append.2 ⟨ih, List.pairwise_singleton _ _, fun x hx y hy => ?_⟩
    rw [List.mem_singleton] at hy
    have := idx_mem.1 hx
    omega
def fstL (P : List Int → Bool) (n : Nat) : Option (List Int) := (List.range (n + 1)).findSome? fun m => (cmb m (idx n)).find? P
theorem fs_none {β : Type} (f : Nat → Option β) : ∀ n, (∀ m, m < n → f m = none) → (List.range n).findSome? f = none := by
  intro n
  induction n with
  | zero => intro _; rfl
  | succ n ih =>
    intro h
    rw [List.range_succ, List.findSome?_append, ih fun m hm => h m (by omega)]
    simp [h n (by omega)]
theorem fs_some {β : Type} (f : Nat → Option β) {k : Nat} {x : β} (h0 : ∀ m, m < k → f m = none) (h1 : f k = some x) : ∀ n, k < n → (List.range n).findSome? f = some x := by
  intro n
  induction n with
  | zero => intro h; omega
  | succ n ih =>
    intro h
    rw [List.range_succ, List.findSome?_append]
    by_cases e : k = n
    · subst e
      rw [fs_none f k h0]
      simp [h1]
    · rw [ih (by omega)]
      rfl
def Best (P : List Int → Bool) (n : Nat) (x : List Int) : Prop := x.Sublist (idx n) ∧ P x = true ∧ ∀ y, y.Sublist (idx n) → P y = true → befB y x = false
theorem Best.uniq {P : List Int → Bool} {n : Nat} {x y : List Int} (hx : Best P n x) (hy : Best P n y) : x = y := befB_tri (hy.2.2 x hx.1 hx.2.1) (hx.2.2 y hy.1 hy.2.1)
theorem sub_len {n : Nat} {y : List Int} (h : y.Sublist (idx n)) : y.length ≤ n := by have := h.length_le; rwa [idx_len] at this
theorem fst_none {P : List Int → Bool} {n : Nat} (h : fstL P n = none) : ∀ y, y.Sublist (idx n) → P y = false := by
  intro y hy
  have := (List.findSome?_eq_none_iff.1 h) y.length (by rw [List.mem_range]; have := sub_len hy; omega)
  have := List.find?_eq_none.1 this y (cmb_mem.2 ⟨hy, rfl⟩)
  simpa using this
theorem fst_some {P : List Int → Bool} {n : Nat} {x : List Int} (h : fstL P n = some x) : Best P n x := by
  have hx : ∃ k, k < n + 1 ∧ (∀ m, m < k → (cmb m (idx n)).find? P = none) ∧ (cmb k (idx n)).find? P = some x := by
    refine Classical.byContradiction fun hc => ?_
    have : ∀ k, k ≤ n + 1 → ∀ m, m < k → (cmb m (idx n)).find? P = none := by
      intro k
      induction k with
      | zero => intro _ m hm; omega
      | succ k ih =>
        intro hk m hm
        by_cases e : m = k
        · subst e
          cases hf : (cmb m (idx n)).find? P with
          | none => rfl
          | some y =>
            have h1 := fs_some (fun m => (cmb m (idx n)).find? P) (ih (by omega)) hf (n + 1) (by omega)
            have h2 : some x = some y := h.symm.trans h1
            cases h2
            exact absurd ⟨m, by omega, ih (by omega), hf⟩ hc
        · exact ih (by omega) m (by omega)
    have := fs_none (fun m => (cmb m (idx n)).find? P) (n + 1) (this (n + 1) (Nat.le_refl _))
    rw [show fstL P n = none from this] at h
    cases h
  obtain ⟨k, hk, h0, h1⟩ := hx
  obtain ⟨hp, i, hi, hxi, hbef⟩ := List.find?_eq_some_iff_getElem.1 h1
  have hm := cmb_mem.1 (List.mem_of_find?_eq_some h1)
  refine ⟨hm.1, hp, fun y hy hP => ?_⟩
  unfold befB
  by_cases e : y.length = x.length
  · rw [if_pos e]
    have hy' : y ∈ cmb k (idx n) := cmb_mem.2 ⟨hy, by omega⟩
    obtain ⟨j, hj, rfl⟩ := List.getElem_of_mem hy'
    rcases Nat.lt_trichotomy j i with h3 | h3 | h3
    · have := hbef j h3
      rw [hP] at this
      cases this
    · subst h3
      rw [hxi]
      exact lexB_irr _
    · have := List.pairwise_iff_getElem.1 (cmb_sorted k (idx_sorted n)) i j hi hj h3
      rw [hxi] at this
      exact lexB_asym this
  · rw [if_neg e, decide_eq_false_iff_not]
    intro hlt
    have := List.find?_eq_none.1 (h0 y.length (by omega)) y (cmb_mem.2 ⟨hy, rfl⟩)
    exact this hP
theorem Best.fst {P : List Int → Bool} {n : Nat} {x : List Int} (h : Best P n x) : fstL P n = some x := by
  cases hf : fstL P n with
  | none => have := fst_none hf x h.1; rw [h.2.1] at this; cases this
  | some y => rw [h.uniq (fst_some hf)]
def pick (p : Nat → Bool) (n : Nat) : List Int := ((List.range n).filter p).map fun (i : Nat) => (i : Int)
structure MaxI (mus : List Int → Option Int) (done : List Int → Prop) (t : Int) (m : List Int) : Prop where
  all : ∀ y, done y → ∃ u, mus y = some u ∧ u ≤ t ∧ (u = t → befB y m = false)
  one : (t = -1 ∧ m = [] ∧ ∀ y, ¬ done y) ∨ (done m ∧ mus m = some t)
theorem befB_irr (y : List Int) : befB y y = false := by
  unfold befB
  rw [if_pos rfl]
  exact lexB_irr y
theorem MaxI.keep {mus : List Int → Option Int} {d : List Int → Prop} {t : Int} {m : List Int} (h : MaxI mus d t m) {y : List Int} {u : Int} (hy : mus y = some u) (h0 : 0 ≤ u) (hu : u ≤ t) (hb : u = t → befB y m = false) : MaxI mus (fun z => d z ∨ z = y) t m := by
  refine ⟨fun z hz => ?_, ?_⟩
  · rcases hz with hz | rfl
    · exact h.all z hz
    · exact ⟨u, hy, hu, hb⟩
  · rcases h.one with ⟨h1, _⟩ | ⟨h1, h2⟩
    · omega
    · exact .inr ⟨.inl h1, h2⟩
theorem MaxI.before {mus : List Int → Option Int} {d : List Int → Prop} {t : Int} {m : List Int} (h : MaxI mus d t m) {y : List Int} (hy : mus y = some t) (hb : befB y m = true) : MaxI mus (fun z => d z ∨ z = y) t y := by
  refine ⟨fun z hz => ?_, .inr ⟨.inr rfl, hy⟩⟩
  rcases hz with hz | rfl
  · obtain ⟨v, h1, h2, h3⟩ := h.all z hz
    refine ⟨v, h1, h2, fun e => ?_⟩
    cases hc : befB z y with
    | false => rfl
    | true =>
      have := befB_trans hc hb
      rw [h3 e] at this
      cases this
  · exact ⟨t, hy, Int.le_refl _, fun _ => befB_irr z⟩
theorem MaxI.congr {mus : List Int → Option Int} {d d' : List Int → Prop} {t : Int} {m : List Int} (h : MaxI mus d t m) (hd : ∀ y, d y ↔ d' y) : MaxI mus d' t m :=
  ⟨fun y hy => h.all y ((hd y).2 hy), h.one.imp (fun ⟨a, b, c⟩ => ⟨a, b, fun y hy => c y ((hd y).2 hy)⟩) fun ⟨a, b⟩ => ⟨(hd m).1 a, b⟩⟩
end Go.SX

namespace Go.SX
set_option linter.unusedSimpArgs false
set_option linter.unusedVariables false
def NV : Int := 1073741824
structure Crs where
  n : Nat
  nr : Nat → Nat → Bool
  T : Nat
  cost : Nat → Nat → Int
  M : Int
structure Crs.Ok (g : Crs) : Prop where
  sym : ∀ x y, x < g.n → y < g.n → g.nr x y = g.nr y x
  cost : ∀ t x, g.cost t x = NV ∨ 0 ≤ g.cost t x ∧ g.cost t x ≤ g.M
  M0 : 0 ≤ g.M
  T1 : 1 ≤ g.T
  TM : (g.T : Int) * g.M < NV
def Crs.mins (g : Crs) (row : Nat → Int) (x : Nat) : Nat → Int
  | 0 => NV
  | m + 1 => if g.nr x m = true ∧ row m < g.mins row x m then row m else g.mins row x m
theorem Crs.mins_top (g : Crs) (row : Nat → Int) (x : Nat) : ∀ m, g.mins row x m ≤ NV
  | 0 => Int.le_refl _
  | m + 1 => by
    have := g.mins_top row x m
    unfold mins
    split
    · rename_i h
      omega
    · exact this
theorem Crs.mins_att (g : Crs) (row : Nat → Int) (x : Nat) : ∀ m, g.mins row x m = NV ∨ ∃ y, y < m ∧ g.nr x y = true ∧ row y = g.mins row x m
  | 0 => .inl rfl
  | m + 1 => by
    unfold mins
    split
    · rename_i h
      exact .inr ⟨m, by omega, h.1, rfl⟩
    · rcases g.mins_att row x m with h | ⟨y, h1, h2, h3⟩
      · exact .inl h
      · exact .inr ⟨y, by omega, h2, h3⟩
def Crs.onw (g : Crs) : Nat → Nat → Int
  | 0, x => g.cost (g.T - 1) x
  | k + 1, x => min NV (g.cost (g.T - 1 - (k + 1)) x + g.mins (g.onw k) x g.n)
theorem mulM {M : Int} (h : 0 ≤ M) {a b : Nat} (hab : a ≤ b) : (a : Int) * M ≤ (b : Int) * M := Int.mul_le_mul_of_nonneg_right (by omega) h
theorem Crs.Ok.small {g : Crs} (h : g.Ok) {k : Nat} (hk : k ≤ g.T) : (k : Int) * g.M < NV := by
  have := mulM h.M0 hk
  have := h.TM
  omega
theorem Crs.onw_bd {g : Crs} (h : g.Ok) : ∀ k x, k + 1 ≤ g.T → g.onw k x = NV ∨ 0 ≤ g.onw k x ∧ g.onw k x ≤ ((k + 1 : Nat) : Int) * g.M
  | 0, x, _ => by
    rcases h.cost (g.T - 1) x with h1 | h1
    · exact .inl h1
    · exact .inr ⟨h1.1, by unfold onw; simp; exact h1.2⟩
  | k + 1, x, hk => by
    unfold onw
    have hs := h.small (k := k + 1 + 1) hk
    have e : ((k + 1 + 1 : Nat) : Int) * g.M = ((k + 1 : Nat) : Int) * g.M + g.M := by rw [Int.natCast_add (k + 1) 1, Int.add_mul]; simp
    rcases h.cost (g.T - 1 - (k + 1)) x with h1 | h1
    · left
      have h3 := g.mins_att (g.onw k) x g.n
      have : 0 ≤ g.mins (g.onw k) x g.n := by
        rcases h3 with h3 | ⟨y, _, _, h3⟩
        · rw [h3]; decide
        · have h2 := Crs.onw_bd h k y (by omega)
          have : (0 : Int) ≤ NV := by decide
          omega
      omega
    · rcases g.mins_att (g.onw k) x g.n with h3 | ⟨y, _, _, h3⟩
      · left
        omega
      · rw [← h3]
        rcases Crs.onw_bd h k y (by omega) with h2 | h2
        · left; omega
        · right; omega
end Go.SX

namespace Go.SX
set_option linter.unusedSimpArgs false
set_option linter.unusedVariables false
def zs (l : List Nat) : List Int := l.map fun (i : Nat) => (i : Int)
def fstC (p : Nat → Bool) (n : Nat) : Option Nat := (List.range n).find? p
theorem fstC_some {p : Nat → Bool} {n y : Nat} (h : fstC p n = some y) : p y = true ∧ y < n ∧ ∀ z, z < y → p z = false := by
  obtain ⟨h1, h2, h3⟩ := List.find?_range_eq_some.1 h
  exact ⟨h1, List.mem_range.1 h2, fun z hz => by simpa using h3 z hz⟩
theorem fstC_hit {p : Nat → Bool} {n y : Nat} (hy : y < n) (hp : p y = true) : ∃ z, fstC p n = some z ∧ z ≤ y := by
  cases h : fstC p n with
  | none =>
    have := List.find?_eq_none.1 h y (List.mem_range.2 hy)
    exact absurd hp this
  | some z =>
    obtain ⟨_, _, h3⟩ := fstC_some h
    refine ⟨z, rfl, Nat.le_of_not_lt fun hlt => ?_⟩
    rw [h3 y hlt] at hp
    cases hp
def Crs.grd (g : Crs) : Nat → Nat → Int → List Nat
  | 0, _, _ => []
  | k + 1, x, left => match fstC (fun y => g.nr x y && decide (g.onw k y = left)) g.n with
    | some y => y :: g.grd k y (left - g.cost (g.T - 1 - k) y)
    | none => []
theorem Crs.onw_parts {g : Crs} (h : g.Ok) {k x : Nat} (hk : k + 1 + 1 ≤ g.T) (hv : g.onw (k + 1) x < NV) : g.mins (g.onw k) x g.n = g.onw (k + 1) x - g.cost (g.T - 1 - (k + 1)) x ∧ ∃ y, y < g.n ∧ g.nr x y = true ∧ g.onw k y = g.onw (k + 1) x - g.cost (g.T - 1 - (k + 1)) x ∧ g.onw k y < NV := by
  have hnv : (0 : Int) ≤ NV := by decide
  have hc := h.cost (g.T - 1 - (k + 1)) x
  have hm := g.mins_top (g.onw k) x g.n
  have e : g.onw (k + 1) x = min NV (g.cost (g.T - 1 - (k + 1)) x + g.mins (g.onw k) x g.n) := rfl
  rcases g.mins_att (g.onw k) x g.n with h3 | ⟨y, hy, hn, h3⟩
  · omega
  · have hb := Crs.onw_bd h k y (by omega)
    exact ⟨by omega, y, hy, hn, by omega, by omega⟩
def Crs.leastC (g : Crs) (m : Nat) : Int := match m with
  | 0 => NV
  | m + 1 => min (g.leastC m) (g.onw (g.T - 1) m)
theorem Crs.leastC_att (g : Crs) : ∀ m, g.leastC m = NV ∨ ∃ x, x < m ∧ g.onw (g.T - 1) x = g.leastC m
  | 0 => .inl rfl
  | m + 1 => by
    unfold leastC
    by_cases e : g.onw (g.T - 1) m < g.leastC m
    · exact .inr ⟨m, by omega, by omega⟩
    · rcases g.leastC_att m with h | ⟨x, h1, h2⟩
      · exact .inl (by omega)
      · exact .inr ⟨x, by omega, by omega⟩
theorem Crs.leastC_top (g : Crs) : ∀ m, g.leastC m ≤ NV
  | 0 => Int.le_refl _
  | m + 1 => by have := g.leastC_top m; unfold leastC; omega
def Crs.least (g : Crs) : Int := g.leastC g.n
def Crs.first (g : Crs) : List Nat := match fstC (fun x => decide (g.onw (g.T - 1) x = g.least)) g.n with
  | some x => x :: g.grd (g.T - 1) x (g.least - g.cost 0 x)
  | none => []
end Go.SX

namespace Go.SX
set_option linter.unusedSimpArgs false
set_option linter.unusedVariables false
structure Rps where
  m : Nat
  tick : Nat → Nat
  fit : Nat → Nat → Bool
def Rps.off (r : Rps) (t x i : Nat) : Bool := decide (r.tick i = t) && !r.fit i x
def Rps.sum (r : Rps) (p : Nat → Int) (t x : Nat) : Nat → Int
  | 0 => 0
  | i + 1 => if r.off t x i then min NV (r.sum p t x i + p i) else r.sum p t x i
def Rps.cost (r : Rps) (may : Nat → Nat → Bool) (p : Nat → Int) (t x : Nat) : Int := if may t x then r.sum p t x r.m else NV
def priceOk (W : Int) (p : Nat → Int) : Prop := ∀ i, p i = NV ∨ 0 ≤ p i ∧ p i ≤ W
theorem Rps.sum_bd (r : Rps) {W : Int} {p : Nat → Int} (hp : priceOk W p) (hW : 0 ≤ W) (t x : Nat) : ∀ i : Nat, (i : Int) * W < NV → r.sum p t x i = NV ∨ 0 ≤ r.sum p t x i ∧ r.sum p t x i ≤ (i : Int) * W
  | 0, _ => .inr ⟨Int.le_refl _, by simp [sum]⟩
  | i + 1, hi => by
    have e : ((i + 1 : Nat) : Int) * W = (i : Int) * W + W := by rw [Int.natCast_add i 1, Int.add_mul]; simp
    have hnv : (0 : Int) ≤ NV := by decide
    have h1 := r.sum_bd hp hW t x i (by omega)
    have h2 := hp i
    unfold sum
    split <;> omega
theorem Rps.cost_bd (r : Rps) {W : Int} {p : Nat → Int} (hp : priceOk W p) (hW : 0 ≤ W) (hm : (r.m : Int) * W < NV) (may : Nat → Nat → Bool) (t x : Nat) : r.cost may p t x = NV ∨ 0 ≤ r.cost may p t x ∧ r.cost may p t x ≤ (r.m : Int) * W := by
  unfold cost
  split
  · exact r.sum_bd hp hW t x r.m hm
  · exact .inl rfl
end Go.SX

namespace Go.SX
set_option linter.unusedSimpArgs false
set_option linter.unusedVariables false
def sumN (f : Nat → Int) : Nat → Int
  | 0 => 0
  | n + 1 => sumN f n + f n
theorem sumN_congr {f g : Nat → Int} : ∀ {n : Nat}, (∀ i, i < n → f i = g i) → sumN f n = sumN g n
  | 0, _ => rfl
  | n + 1, h => by rw [sumN, sumN, sumN_congr fun i hi => h i (by omega), h n (by omega)]
theorem sumN_zero {f : Nat → Int} : ∀ {n : Nat}, (∀ i, i < n → f i = 0) → sumN f n = 0
  | 0, _ => rfl
  | n + 1, h => by rw [sumN, sumN_zero fun i hi => h i (by omega), h n (by omega)]; rfl
end Go.SX

namespace Go.SX
set_option linter.unusedSimpArgs false
set_option linter.unusedVariables false
set_option maxRecDepth 10000
def RefI (P : List Int → Bool) (n s : Nat) (found : Bool) (b : List Int) : Prop :=
  (found = false ∧ b = [] ∧ ∀ s', s' < s → P (pick s'.testBit n) = false) ∨ (found = true ∧ b.Sublist (idx n) ∧ P b = true ∧ ∀ s', s' < s → P (pick s'.testBit n) = true → befB (pick s'.testBit n) b = false)
theorem RefI.zero (P : List Int → Bool) (n : Nat) : RefI P n 0 false [] := .inl ⟨rfl, rfl, fun s' h => by omega⟩
theorem RefI.no {P : List Int → Bool} {n s : Nat} {found : Bool} {b : List Int} (h : RefI P n s found b) (hP : P (pick s.testBit n) = false) : RefI P n (s + 1) found b := by
  rcases h with ⟨a1, a2, a3⟩ | ⟨a1, a2, a3, a4⟩
  · refine .inl ⟨a1, a2, fun s' hs => ?_⟩
    by_cases e : s' = s
    · rw [e]; exact hP
    · exact a3 s' (by omega)
  · refine .inr ⟨a1, a2, a3, fun s' hs hp => ?_⟩
    by_cases e : s' = s
    · rw [e, hP] at hp; cases hp
    · exact a4 s' (by omega) hp
end Go.SX

namespace Go.SX
set_option linter.unusedSimpArgs false
set_option linter.unusedVariables false
structure Crs.Same (g h : Crs) : Prop where
  n : g.n = h.n
  T : g.T = h.T
  nr : ∀ x y, x < g.n → y < g.n → g.nr x y = h.nr x y
  cost : ∀ t x, x < g.n → g.cost t x = h.cost t x
theorem Crs.Same.mins {g h : Crs} (s : g.Same h) {r r' : Nat → Int} (hr : ∀ y, y < g.n → r y = r' y) {x : Nat} (hx : x < g.n) : ∀ m, m ≤ g.n → g.mins r x m = h.mins r' x m
  | 0, _ => rfl
  | m + 1, hm => by
    have ih := s.mins hr hx m (by omega)
    unfold Crs.mins
    rw [ih, s.nr x m hx (by omega), hr m (by omega)]
theorem Crs.Same.onw {g h : Crs} (s : g.Same h) : ∀ k x, x < g.n → g.onw k x = h.onw k x
  | 0, x, hx => by unfold Crs.onw; rw [s.T, s.cost _ _ hx]
  | k + 1, x, hx => by
    unfold Crs.onw
    rw [s.T, s.cost _ _ hx, s.mins (s.onw k) hx g.n (Nat.le_refl _), s.n]
theorem Crs.Same.leastC {g h : Crs} (s : g.Same h) : ∀ m, m ≤ g.n → g.leastC m = h.leastC m
  | 0, _ => rfl
  | m + 1, hm => by unfold Crs.leastC; rw [s.leastC m (by omega), s.T, s.onw _ m (by omega)]
theorem Crs.Same.least {g h : Crs} (s : g.Same h) : g.least = h.least := by
  unfold Crs.least
  rw [s.leastC g.n (Nat.le_refl _), s.n]
theorem fstC_congr {p q : Nat → Bool} {n : Nat} (h : ∀ x, x < n → p x = q x) : fstC p n = fstC q n := by
  have : ∀ l : List Nat, (∀ x ∈ l, p x = q x) → l.find? p = l.find? q := fun l => by
    induction l with
    | nil => exact fun _ => rfl
    | cons a l ih =>
      intro ha
      rw [List.find?_cons, List.find?_cons, ha a List.mem_cons_self, ih fun x hx => ha x (List.mem_cons_of_mem _ hx)]
  exact this _ fun x hx => h x (List.mem_range.1 hx)
theorem Crs.Same.grd {g h : Crs} (s : g.Same h) : ∀ k x left, x < g.n → g.grd k x left = h.grd k x left
  | 0, _, _, _ => rfl
  | k + 1, x, left, hx => by
    unfold Crs.grd
    rw [fstC_congr (q := fun y => h.nr x y && decide (h.onw k y = left)) fun y hy => by rw [s.nr x y hx hy, s.onw k y hy], s.n]
    cases hf : fstC (fun y => h.nr x y && decide (h.onw k y = left)) h.n with
    | none => rfl
    | some y =>
      have hy : y < g.n := by rw [s.n]; exact (fstC_some hf).2.1
      simp only []
      rw [s.T, s.cost _ y hy, s.grd k y _ hy]
theorem Crs.Same.first {g h : Crs} (s : g.Same h) : g.first = h.first := by
  unfold Crs.first
  rw [fstC_congr (q := fun x => decide (h.onw (h.T - 1) x = h.least)) fun x hx => by rw [s.T, s.onw _ x hx, s.least], s.n]
  cases hf : fstC (fun x => decide (h.onw (h.T - 1) x = h.least)) h.n with
  | none => rfl
  | some y =>
    have hy : y < g.n := by rw [s.n]; exact (fstC_some hf).2.1
    simp only []
    rw [s.T, s.least, s.cost _ y hy, s.grd _ y _ hy]
end Go.SX

namespace Go.SX
open Go.RowKit
theorem ShareJ.since {NS : List HO → Prop} {J : Option Nat → (Nat → Prop) → (Nat → Prop) → World → Prop} (h : ShareJ NS J) (w : World) (C R : Nat → Prop) : ShareJ NS (Go.SX.since w C R J) :=
  ⟨fun k C' R' w1 hj => h.1 k C' R' w1 hj.1, fun k C' R' w1 w2 S S' hj h1 h2 h3 h4 h5 => ⟨h.2 k C' R' w1 w2 S S' hj.1 h1 h2 h3 h4 h5, hj.2⟩⟩
theorem IterS.introS {P : Program} {gf n : Nat} {pre post : List Value} {arg : Nat → List Value → List HO → Prop} {A Rs : Nat → Prop} {NS : List HO → Prop} {w : World}
    (h : ∀ l J C R, (∀ b, Rs b → ¬ C b) → (∀ b, A b → ¬ C b ∧ ¬ R b) → Handler P l n arg w C A J → ShareJ NS J → HO.ok w (consu J (some 0) C R) →
      Calls P gf (pre ++ [Value.func (.yield l) #[] #[]] ++ post).toArray w fun e w' => ∃ v N, e = .returned v ∧ Keep (fun b => C b ∨ A b) w w' ∧ (∀ h ∈ N, h.ok w') ∧ iterPost n J v N) :
    IterS P gf pre post n arg A Rs NS w := by
  intro l J C R hH hJ hA hRs hS
  have hJ' : Go.SX.since w C R J (some 0) C R w := ⟨hJ, fun b hb => .inl hb, fun b hb => .inl hb⟩
  refine Calls.mono (h l _ C R hRs hA (hH.since C R) (hS.since w C R) ⟨hJ', (hH.since C R).lt _ _ _ _ hJ', fun w1 w2 hs hl hj => (hH.since C R).stable _ _ _ _ _ hs hl hj⟩) ?_
  rintro e w' ⟨v, N, rfl, hk, hok, rfl, st, C2, R2, hm, hst⟩
  have := hok _ hm
  exact ⟨st, C2, R2, rfl, hk, this.1.2.1, this.1.2.2, hst, this.1.1⟩
theorem range_introS {P : Program} {w0 : Base} {Ba Bb : XSt → St} {gf : Nat} {first cap : Array Value} {ps : List Tmp} {Q : XSt} {fr : List SV} {L : List Box} {H : List HO} (NS : List HO → Prop) (hNS : Shared NS) (hT : CallT P gf) (n : Nat) (arg : Nat → List Value → List HO → Prop) (Hc : List HO) (I : Nat → List Box → List HO → Prop) (Rs : Nat → Prop)
    (hdec : ∀ k L H, I k L H → ∃ S B, NS S ∧ H = S ++ B ∧ ∀ S', NS S' → I k L (S' ++ B))
    (hi : HImp w0 H Hc) (hRs : ∀ b, Rs b → b < w0.w.heap.size ∧ ¬ w0.X b) (hit : ∀ w, Hp w0 Hc w → IterS P gf first.toList cap.toList n arg (fun _ => False) Rs NS w) (h0 : I 0 L Hc) (hl : ∀ k vs F, arg k vs F → vs.length = ps.length)
    (hstep : ∀ k vs F L' H', k < n → arg k vs F → L'.length = L.length → I k L' H' → Hid (Ba (assignQ fun fr2 L2 H2 => Bb (rangeQ w0 L.length (I (k + 1)) Q fr) fr2 L2 H2) (setPs fr ps vs) L' (F ++ H')))
    (hend : ∀ L' H', L'.length = L.length → I n L' H' → Hid (Q .nxt fr L' H')) : RangeOb P w0 Ba Bb (.v (.func (.func gf) first cap)) ps Q fr L H :=
  ⟨hT, n, arg, [], Hc, I, fun _ => False, Rs, NS, hNS, hdec, hi, fun _ h => h.elim, fun b hb => .inl (hRs b hb), hit, h0, hl, fun k vs F L' H' h1 h2 h3 h4 => (hstep k vs F L' H' h1 h2 h3 h4).get, fun L' H' h1 h2 => (hend L' H' h1 h2).get⟩
theorem CallOb.shareH {P : Program} {w0 : Base} {f : Nat} {args : List Value} {NS : List HO → Prop} {J : Option Nat → (Nat → Prop) → (Nat → Prop) → World → Prop} {k : Nat} {C R : Nat → Prop} {H B : List HO} {kont : Value → List HO → Prop} {PostV : Value → Prop} (hJ : ShareJ NS J)
    (hi : HImp w0 H (consu J (some k) C R :: B))
    (h : ∀ w S, Hp w0 H w → NS S → (∀ h ∈ S, h.ok w) → Fn P f args w (fpsx S) fun v N => PostV v ∧ ∃ S', NS S' ∧ ∀ h ∈ S', h ∈ N)
    (hk : ∀ v, PostV v → Hid (kont v (consu J (some k) C R :: B))) : CallOb P w0 false (.fn f) args H kont := by
  intro w hp0
  have hp := (hi w hp0).1
  have hnd := List.pairwise_cons.1 hp.nd
  have hc := hp.ok (consu J (some k) C R) List.mem_cons_self
  obtain ⟨S, hS, hSok, hSC⟩ := hJ.1 k C R w hc.1
  refine Calls.mono (h w S hp0 hS hSok) fun e w' he => ?_
  obtain ⟨v, N, rfl, hkeep, hok, hold, hn, hpv, S', hS', hSN⟩ := he
  have hkS : Keep (fps S) w w' := hkeep.mono fun b hb => fps_of_fpsx hb
  have hJ' : J (some k) C R w' := hJ.2 k C R w w' S S' hc.1 hS hSok hS' (fun h hh => hok h (hSN h hh)) hkS
  have hkC : Keep C w w' := hkS.mono hSC
  have upx : ∀ b, C b → fpsx H b := fun b hb => (hi w hp0).2.2 b ⟨_, List.mem_cons_self, hb⟩
  refine ⟨v, C, consu J (some k) C R :: B, rfl, hkC, upx, ⟨hkC.into hp.ext fun b hb => hp.old _ List.mem_cons_self b hb, fun g hg => ?_, hp.old, hp.nd⟩, fun g hg b => ⟨fun hb => .inl ((hi w hp0).2.1 b ⟨g, hg, hb⟩), fun hb => .inl ((hi w hp0).2.2 b ⟨g, hg, hb⟩)⟩, (fun h => by cases h), (hk v hpv).get⟩
  rcases List.mem_cons.1 hg with rfl | hg
  · exact ⟨hJ', fun b hb => Nat.lt_of_lt_of_le (hc.2.1 b hb) hkC.size, hc.2.2⟩
  · have hw := hp.ok g (List.mem_cons_of_mem _ hg)
    exact HO.stable hw (hkC.sameOn (fun b hb => HO.lt hw hb) fun b hb hC => (hnd.1 g hg b (.inl hC) hb).1 hC)
end Go.SX

namespace Go.SX
open Go.RowKit Go.WideMaps
def KeysOk (P : Program) (k : TypeId) (es : Array MapEntry) : Prop := ∀ e ∈ es.toList, ∃ l, keyOf P k e.key = some l
theorem KeysOk.nil (P : Program) (k : TypeId) : KeysOk P k #[] := fun e h => by simp at h
theorem KeysOk.push {P : Program} {k : TypeId} {es : Array MapEntry} {key v : Value} {c : Nat} (h : KeysOk P k es) (hk : ∃ l, keyOf P k key = some l) : KeysOk P k (es.push { key := key, val := v, born := c }) := fun e he => by
  simp only [Array.toList_push, List.mem_append, List.mem_singleton] at he
  rcases he with he | rfl
  · exact h e he
  · exact hk
theorem lk_W {P : Program} {w0 : Base} {T kt et : TypeId} {b c : Nat} {es : Array MapEntry} {key z : Value} {H : List HO} {K : Value → Prop} (hm : P.underlying T = some (.map kt et)) (L : KeyLaw P kt) (hk : ∃ l, keyOf P kt key = some l) (hes : KeysOk P kt es)
    (hz : ∀ w, (zeroValue et).run P w = .ok z w) (hv : ∀ e ∈ es.toList, ∀ e' ∈ es.toList, e.key = e'.key → e.val = e'.val) (hH : HO.obj b (.map es c) ∈ H)
    (h1 : (∀ e ∈ es.toList, e.key ≠ key) → K (.tuple #[z, .bool false])) (h2 : ∀ e ∈ es.toList, e.key = key → K (.tuple #[e.val, .bool true])) : hold (LkOb P w0 T (.map (some b)) key true H K) ⟨0⟩ := by
  obtain ⟨l, hl⟩ := hk
  by_cases hx : ∃ e ∈ es.toList, e.key = key
  · obtain ⟨e, he, hek⟩ := hx
    refine ⟨.tuple #[e.val, .bool true], fun w hp => ?_, h2 e he hek⟩
    have hb : w.heap[b]? = some (.map es c) := hp.ok _ hH
    rcases L.find w hl es.toList hes with ⟨_, h⟩ | ⟨j, e', hr, hj, hk'⟩
    · exact absurd hek (h e he)
    · have : e'.val = e.val := hv e' (List.mem_of_getElem? hj) e he (hk'.trans hek.symm)
      simp [Instr.lookup, run_underlying hm, MapKept.run_getObj_map hb, L.check w _ hl, hr, Result.andThen, this]
  · have hn : ∀ e ∈ es.toList, e.key ≠ key := fun e he h => hx ⟨e, he, h⟩
    refine ⟨.tuple #[z, .bool false], fun w hp => ?_, h1 hn⟩
    have hb : w.heap[b]? = some (.map es c) := hp.ok _ hH
    rcases L.find w hl es.toList hes with ⟨hr, _⟩ | ⟨j, e', hr, hj, hk'⟩
    · simp [Instr.lookup, run_underlying hm, MapKept.run_getObj_map hb, L.check w _ hl, hr, Result.andThen, hz]
    · exact absurd hk' (hn e' (List.mem_of_getElem? hj))
theorem lk_W1 {P : Program} {w0 : Base} {T kt et : TypeId} {b c : Nat} {es : Array MapEntry} {key : Value} {e : MapEntry} {H : List HO} {K : Value → Prop} (hm : P.underlying T = some (.map kt et)) (L : KeyLaw P kt) (hk : ∃ l, keyOf P kt key = some l) (hes : KeysOk P kt es)
    (hv : ∀ e ∈ es.toList, ∀ e' ∈ es.toList, e.key = e'.key → e.val = e'.val) (hH : HO.obj b (.map es c) ∈ H) (he : e ∈ es.toList) (hek : e.key = key) (hK : K e.val) : hold (LkOb P w0 T (.map (some b)) key false H K) ⟨0⟩ := by
  obtain ⟨l, hl⟩ := hk
  refine ⟨e.val, fun w hp => ?_, hK⟩
  have hb : w.heap[b]? = some (.map es c) := hp.ok _ hH
  rcases L.find w hl es.toList hes with ⟨_, h⟩ | ⟨j, e', hr, hj, hk'⟩
  · exact absurd hek (h e he)
  · have : e'.val = e.val := hv e' (List.mem_of_getElem? hj) e he (hk'.trans hek.symm)
    simp [Instr.lookup, run_underlying hm, MapKept.run_getObj_map hb, L.check w _ hl, hr, Result.andThen, this]
theorem ins_W {P : Program} {T kt et : TypeId} {b c : Nat} {es : Array MapEntry} {key x : Value} {H A B : List HO} {K : List HO → Prop} (hm : P.underlying T = some (.map kt et)) (L : KeyLaw P kt) (hk : ∃ l, keyOf P kt key = some l) (hes : KeysOk P kt es) (hn : ∀ e ∈ es.toList, e.key ≠ key)
    (hH : H = A ++ .obj b (.map es c) :: B) (hK : K (A ++ .obj b (.map (es.push { key := key, val := x, born := c }) (c + 1)) :: B)) : hold (InsOb P T (.map (some b)) key x H K) ⟨0⟩ := by
  obtain ⟨l, hl⟩ := hk
  refine ⟨A, b, es, c, B, _, _, hH, fun w hb => ?_, hK⟩
  rcases L.find w hl es.toList hes with ⟨hr, _⟩ | ⟨j, e', hr, hj, hk'⟩
  · simp [Instr.mapUpdate, run_underlying hm, MapKept.run_getObj_map hb, L.check w _ hl, hr, MapKept.run_setObj_map _ hb, Result.andThen]
  · exact absurd hk' (hn e' (List.mem_of_getElem? hj))
end Go.SX

namespace Go.SX
theorem sumN_upto {f : Nat → Int} {j : Nat} : ∀ {n : Nat}, j < n → sumN (fun k => if k ≤ j then f k else 0) n = sumN f (j + 1)
  | n + 1, h => by
    by_cases e : j = n
    · subst e
      exact sumN_congr fun i hi => if_pos (by omega)
    · have h1 := sumN_upto (f := f) (j := j) (n := n) (by omega)
      rw [sumN, h1, if_neg (by omega), Int.add_zero]
theorem sumN_le {f g : Nat → Int} : ∀ {n : Nat}, (∀ i, i < n → f i ≤ g i) → sumN f n ≤ sumN g n
  | 0, _ => Int.le_refl _
  | n + 1, h => by
    have h1 := sumN_le (n := n) fun i hi => h i (by omega)
    have h2 := h n (by omega)
    rw [sumN, sumN]
    omega
def purM (inc cost : Nat → Int) (e : Int) (n S : Nat) : Int :=
  sumN (fun k => if (List.range n).any (fun i => S.testBit i && decide (k ≤ i)) then inc k else 0) n + (if (List.range n).any (fun i => S.testBit i) then e else 0) - sumN (fun i => if S.testBit i then cost i else 0) n
theorem max_bit {S : Nat} : ∀ {n : Nat}, (List.range n).any (fun i => S.testBit i) = true → ∃ j, j < n ∧ S.testBit j = true ∧ ∀ i, j < i → i < n → S.testBit i = false
  | 0, h => by simp at h
  | n + 1, h => by
    by_cases hb : S.testBit n = true
    · exact ⟨n, by omega, hb, fun i h1 h2 => by omega⟩
    · rw [List.range_succ, List.any_append] at h
      simp [hb] at h
      obtain ⟨j, h1, h2, h3⟩ := max_bit (S := S) (n := n) (by simpa using h)
      refine ⟨j, by omega, h2, fun i h4 h5 => ?_⟩
      by_cases e : i = n
      · subst e
        simpa using hb
      · exact h3 i h4 (by omega)
theorem purM_none {inc cost : Nat → Int} {e : Int} {n S : Nat} (h : (List.range n).any (fun i => S.testBit i) = false) : purM inc cost e n S = 0 := by
  have hb : ∀ i, i < n → S.testBit i = false := fun i hi => by
    have := List.any_eq_false.1 h i (by simpa using hi)
    simpa using this
  have h1 : ∀ k, (List.range n).any (fun i => S.testBit i && decide (k ≤ i)) = false := fun k => List.any_eq_false.2 fun i hi => by
    rw [hb i (by simpa using hi)]
    simp
  unfold purM
  rw [h, sumN_zero (f := fun k => if (List.range n).any (fun i => S.testBit i && decide (k ≤ i)) then inc k else 0) fun i _ => by rw [h1]; rfl, sumN_zero (f := fun i => if S.testBit i then cost i else 0) fun i hi => by rw [hb i hi]; rfl]
  rfl
theorem purM_max {inc cost : Nat → Int} {e : Int} {n S j : Nat} (hj : j < n) (hs : S.testBit j = true) (hm : ∀ i, j < i → i < n → S.testBit i = false) :
    purM inc cost e n S = sumN inc (j + 1) + e - sumN (fun i => if S.testBit i then cost i else 0) (j + 1) := by
  have h0 : (List.range n).any (fun i => S.testBit i) = true := List.any_eq_true.2 ⟨j, by simpa using hj, hs⟩
  have h1 : ∀ k, (List.range n).any (fun i => S.testBit i && decide (k ≤ i)) = decide (k ≤ j) := fun k => by
    by_cases hk : k ≤ j
    · rw [decide_eq_true hk]
      exact List.any_eq_true.2 ⟨j, by simpa using hj, by rw [hs, decide_eq_true hk]; rfl⟩
    · rw [decide_eq_false hk]
      refine List.any_eq_false.2 fun i hi => ?_
      by_cases hki : k ≤ i
      · rw [hm i (by omega) (by simpa using hi)]
        simp
      · simp [hki]
  have h2 : sumN (fun i => if S.testBit i then cost i else 0) n = sumN (fun i => if S.testBit i then cost i else 0) (j + 1) := by
    rw [← sumN_upto (f := fun i => if S.testBit i then cost i else 0) hj]
    refine sumN_congr fun i hi => ?_
    by_cases hij : i ≤ j
    · rw [if_pos hij]
    · rw [if_neg hij, hm i (by omega) hi]
      rfl
  unfold purM
  rw [h0, if_pos rfl, h2]
  have h3 : sumN (fun k => if (List.range n).any (fun i => S.testBit i && decide (k ≤ i)) then inc k else 0) n = sumN inc (j + 1) := by
    rw [← sumN_upto (f := inc) hj]
    refine sumN_congr fun i hi => ?_
    rw [h1]
    by_cases hij : i ≤ j
    · rw [if_pos (decide_eq_true hij), if_pos hij]
    · rw [if_neg (by rw [decide_eq_false hij]; simp), if_neg hij]
  rw [h3]
theorem purM_all {inc cost : Nat → Int} {e : Int} {n : Nat} (hc : ∀ i, i < n → 0 ≤ cost i) : (∀ S, S < 2 ^ n → 0 ≤ purM inc cost e n S) ↔ ∀ j, j < n → 0 ≤ sumN inc (j + 1) + e - sumN cost (j + 1) := by
  constructor
  · intro h j hj
    have hb : ∀ i, (2 ^ (j + 1) - 1).testBit i = decide (i < j + 1) := fun i => Nat.testBit_two_pow_sub_one _ _
    have h1 := h (2 ^ (j + 1) - 1) (by
      have h2 : 2 ^ (j + 1) ≤ 2 ^ n := Nat.pow_le_pow_right (by omega) (by omega)
      have h3 : 0 < 2 ^ (j + 1) := Nat.two_pow_pos _
      omega)
    rw [purM_max hj (by rw [hb]; exact decide_eq_true (by omega)) (fun i h1 h2 => by rw [hb]; exact decide_eq_false (by omega))] at h1
    have h2 : sumN (fun i => if (2 ^ (j + 1) - 1).testBit i then cost i else 0) (j + 1) = sumN cost (j + 1) := sumN_congr fun i hi => by
      rw [hb, decide_eq_true hi]
      rfl
    rw [h2] at h1
    exact h1
  · intro h S hS
    cases hb : (List.range n).any (fun i => S.testBit i) with
    | false =>
      rw [purM_none hb]
      exact Int.le_refl _
    | true =>
      obtain ⟨j, hj, hs, hm⟩ := max_bit hb
      rw [purM_max hj hs hm]
      have h1 := h j hj
      have h2 : sumN (fun i => if S.testBit i then cost i else 0) (j + 1) ≤ sumN cost (j + 1) := sumN_le fun i hi => by
        have := hc i (by omega)
        by_cases hb : S.testBit i = true
        · rw [if_pos hb]
          exact Int.le_refl _
        · rw [if_neg hb]
          exact this
      omega
def lackN (P : Nat → Int) (i : Nat) : Int := max 0 (-(P i))
def onceN (P : Nat → Int) : Nat → Int
  | 0 => 0
  | n + 1 => max (onceN P n) (lackN P n)
def monN (P : Nat → Int) : Nat → Int
  | 0 => 0
  | n + 1 => max (monN P n) ((lackN P n + n) / (n + 1))
theorem lack_nn (P : Nat → Int) (i : Nat) : 0 ≤ lackN P i := by unfold lackN; omega
theorem once_nn (P : Nat → Int) : ∀ n, 0 ≤ onceN P n
  | 0 => Int.le_refl _
  | n + 1 => by
    have := once_nn P n
    rw [onceN]
    omega
theorem once_ge {P : Nat → Int} : ∀ {n i : Nat}, i < n → lackN P i ≤ onceN P n
  | n + 1, i, h => by
    rw [onceN]
    by_cases e : i = n
    · subst e
      omega
    · have := once_ge (P := P) (n := n) (i := i) (by omega)
      omega
theorem once_att {P : Nat → Int} : ∀ {n : Nat}, 0 < onceN P n → ∃ i, i < n ∧ onceN P n = -(P i)
  | 0, h => by simp [onceN] at h
  | n + 1, h => by
    rw [onceN] at h ⊢
    by_cases h1 : onceN P n ≥ lackN P n
    · obtain ⟨i, h2, h3⟩ := once_att (P := P) (n := n) (by omega)
      exact ⟨i, by omega, by omega⟩
    · refine ⟨n, by omega, ?_⟩
      have h2 := once_nn P n
      unfold lackN at h1 ⊢
      omega
theorem once_zero {P : Nat → Int} {n : Nat} : onceN P n = 0 ↔ ∀ i, i < n → 0 ≤ P i := by
  constructor
  · intro h i hi
    have := once_ge (P := P) hi
    unfold lackN at this
    omega
  · intro h
    have h1 := once_nn P n
    by_cases h2 : 0 < onceN P n
    · obtain ⟨i, hi, h3⟩ := once_att h2
      have := h i hi
      omega
    · omega
theorem mon_nn (P : Nat → Int) : ∀ n, 0 ≤ monN P n
  | 0 => Int.le_refl _
  | n + 1 => by
    have := mon_nn P n
    rw [monN]
    omega
theorem mon_ge {P : Nat → Int} : ∀ {n i : Nat}, i < n → lackN P i ≤ ((i : Int) + 1) * monN P n
  | n + 1, i, h => by
    rw [monN]
    by_cases e : i = n
    · subst e
      have h1 : lackN P i ≤ ((i : Int) + 1) * ((lackN P i + i) / (i + 1)) := by
        have h2 := Int.mul_ediv_add_emod (lackN P i + i) ((i : Int) + 1)
        have h3 := Int.emod_lt_of_pos (lackN P i + i) (show (0 : Int) < (i : Int) + 1 by omega)
        omega
      refine Int.le_trans h1 (Int.mul_le_mul_of_nonneg_left ?_ (by omega))
      omega
    · have h1 := mon_ge (P := P) (n := n) (i := i) (by omega)
      refine Int.le_trans h1 (Int.mul_le_mul_of_nonneg_left ?_ (by omega))
      omega
theorem mon_zero {P : Nat → Int} : ∀ {n : Nat}, monN P n = 0 ↔ ∀ i, i < n → 0 ≤ P i
  | 0 => ⟨fun _ i hi => by omega, fun _ => rfl⟩
  | n + 1 => by
    have ih := mon_zero (P := P) (n := n)
    have h0 := mon_nn P n
    have hl := lack_nn P n
    have hd : 0 ≤ (lackN P n + n) / ((n : Int) + 1) := Int.ediv_nonneg (by omega) (by omega)
    have hz : (lackN P n + n) / ((n : Int) + 1) = 0 ↔ 0 ≤ P n := by
      constructor
      · intro h
        have h3 := Int.emod_lt_of_pos (lackN P n + n) (show (0 : Int) < (n : Int) + 1 by omega)
        have h2 := Int.mul_ediv_add_emod (lackN P n + n) ((n : Int) + 1)
        rw [h] at h2
        unfold lackN at h2 h3
        omega
      · intro h
        have : lackN P n = 0 := by unfold lackN; omega
        rw [this]
        exact Int.ediv_eq_zero_of_lt (by omega) (by omega)
    rw [monN]
    constructor
    · intro h i hi
      by_cases e : i = n
      · subst e
        exact hz.1 (by omega)
      · exact ih.1 (by omega) i (by omega)
    · intro h
      have h1 := ih.2 fun i hi => h i (by omega)
      have h2 := hz.2 (h n (by omega))
      omega
def lastN (P : Nat → Int) : Nat → Nat → Nat
  | _, 0 => 0
  | i, n + 1 => if P i < 0 then 0 else lastN P (i + 1) n + 1
theorem last_all {P : Nat → Int} : ∀ {n i : Nat}, lastN P i n = n ↔ ∀ j, i ≤ j → j < i + n → 0 ≤ P j
  | 0, i => ⟨fun _ j h1 h2 => by omega, fun _ => rfl⟩
  | n + 1, i => by
    have ih := last_all (P := P) (n := n) (i := i + 1)
    rw [lastN]
    by_cases h : P i < 0
    · rw [if_pos h]
      refine ⟨fun h1 => by omega, fun h1 => ?_⟩
      have := h1 i (by omega) (by omega)
      omega
    · rw [if_neg h]
      constructor
      · intro h1 j h2 h3
        by_cases e : j = i
        · subst e
          omega
        · exact ih.1 (by omega) j (by omega) (by omega)
      · intro h1
        have := ih.2 fun j h2 h3 => h1 j (by omega) (by omega)
        omega
end Go.SX

namespace Go.SX
open Go Go.RowKit
def bitI (S : Int) (i : Nat) : Bool := decide (bitS .and .i64 (S.fdiv (2 ^ (min i IntKind.i64.bits))) 1 = 1)
theorem bit64 : ∀ s : Fin 64, ∀ i : Fin 7, bitI ((s.val : Nat) : Int) i.val = s.val.testBit i.val := by decide +kernel
theorem or64 : ∀ a b : Fin 64, bitS .or .i64 ((a.val : Nat) : Int) ((b.val : Nat) : Int) = ((a.val ||| b.val : Nat) : Int) := by decide +kernel
def spA (need uses : List Int) (B : Int) : Nat → Int × Int
  | 0 => (0, 0)
  | k + 1 => if bitI B k then (IntKind.i64.wrap ((spA need uses B k).1 - need.getD k 0), bitS .or .i64 (spA need uses B k).2 (uses.getD k 0)) else spA need uses B k
def spB (left : List Int) (G m : Int) : Nat → Int
  | 0 => m
  | k + 1 => if bitI G k then IntKind.i64.wrap (spB left G m k + left.getD k 0) else spB left G m k
def spM (left need uses : List Int) (B : Int) : Int := spB left (spA need uses B need.length).2 (spA need uses B need.length).1 left.length
def useN (n : Nat) (x : Bool) (j : Nat) : Nat := (2 ^ (j + 1) - 1) ||| (if x then 2 ^ n else 0)
def useG (n : Nat) (x : Bool) (S : Nat) : Nat → Nat
  | 0 => 0
  | k + 1 => if S.testBit k then useG n x S k ||| useN n x k else useG n x S k
theorem useN_bit (n : Nat) (x : Bool) (j k : Nat) : (useN n x j).testBit k = (decide (k ≤ j) || (x && decide (k = n))) := by
  unfold useN
  rw [Nat.testBit_or, Nat.testBit_two_pow_sub_one]
  have e : decide (k < j + 1) = decide (k ≤ j) := by rw [decide_eq_decide]; omega
  rw [e]
  congr 1
  cases x with
  | false => simp
  | true =>
    simp only [if_true, Bool.true_and]
    rw [Nat.testBit_two_pow, decide_eq_decide]
    exact eq_comm
theorem useN_lt {n : Nat} (hn : n ≤ 5) (x : Bool) {j : Nat} (hj : j < n) : useN n x j < 64 := by
  refine Nat.lt_pow_two_of_testBit (n := 6) _ fun k hk => ?_
  rw [useN_bit]
  have e1 : decide (k ≤ j) = false := decide_eq_false (by omega)
  have e2 : decide (k = n) = false := decide_eq_false (by omega)
  rw [e1, e2]
  simp
theorem useG_lt {n : Nat} (hn : n ≤ 5) (x : Bool) (S : Nat) : ∀ k, k ≤ n → useG n x S k < 64
  | 0, _ => by simp [useG]
  | k + 1, h => by
    have h1 := useG_lt hn x S k (by omega)
    rw [useG]
    split
    · exact Nat.or_lt_two_pow (n := 6) h1 (useN_lt hn x (by omega))
    · exact h1
theorem useG_bit (n : Nat) (x : Bool) (S t : Nat) : ∀ k, (useG n x S k).testBit t = (List.range k).any (fun i => S.testBit i && (decide (t ≤ i) || (x && decide (t = n))))
  | 0 => by simp [useG]
  | k + 1 => by
    rw [useG, List.range_succ, List.any_append, ← useG_bit n x S t k]
    cases hb : S.testBit k with
    | true => simp [Nat.testBit_or, useN_bit, hb]
    | false => simp [hb]
theorem wrap_i64 {n : Int} (h : -9223372036854775808 ≤ n ∧ n ≤ 9223372036854775807) : IntKind.i64.wrap n = n := by
  rw [IntKind.wrap_i64]
  omega
theorem sumN_bd {f : Nat → Int} {M : Int} : ∀ {n : Nat}, (∀ i, i < n → 0 ≤ f i ∧ f i ≤ M) → 0 ≤ sumN f n ∧ sumN f n ≤ (n : Int) * M
  | 0, _ => by simp [sumN]
  | n + 1, h => by
    have h1 := sumN_bd (n := n) fun i hi => h i (by omega)
    have h2 := h n (by omega)
    rw [sumN, show ((n + 1 : Nat) : Int) * M = (n : Int) * M + M by rw [Int.natCast_add, Int.add_mul]; simp]
    omega
theorem spA_is {L : List Int} {n : Nat} (hn : n ≤ 5) (x : Bool) (hb : ∀ i, 0 ≤ L.getD i 0 ∧ L.getD i 0 ≤ 100000) {S : Nat} (hS : S < 64) : ∀ k, k ≤ n →
    spA L ((List.range n).map fun j => ((useN n x j : Nat) : Int)) S k = (-(sumN (fun i => if S.testBit i then L.getD i 0 else 0) k), ((useG n x S k : Nat) : Int))
  | 0, _ => rfl
  | k + 1, h => by
    have ih := spA_is hn x hb hS k (by omega)
    have hbit : bitI ((S : Nat) : Int) k = S.testBit k := bit64 ⟨S, hS⟩ ⟨k, by omega⟩
    have hu : ((List.range n).map fun j => ((useN n x j : Nat) : Int)).getD k 0 = ((useN n x k : Nat) : Int) := by
      rw [List.getD_eq_getElem?_getD, List.getElem?_map, List.getElem?_range (by omega)]
      rfl
    rw [spA, ih, hbit, hu, sumN, useG]
    cases hs : S.testBit k with
    | false => simp
    | true =>
      simp only [if_true]
      have h1 := sumN_bd (f := fun i => if S.testBit i then L.getD i 0 else 0) (M := 100000) (n := k) fun i _ => by
        have := hb i
        by_cases e : S.testBit i = true
        · simp only [e, if_true]; exact this
        · simp only [e]; simp
      have h2 := hb k
      have h3 := or64 ⟨useG n x S k, useG_lt hn x S k (by omega)⟩ ⟨useN n x k, useN_lt hn x (by omega)⟩
      simp only [] at h3
      rw [wrap_i64 (by omega), h3]
      congr 1
      omega
theorem spB_is {left : List Int} {G : Nat} (hG : G < 64) {m : Int} (hm : -500000 ≤ m ∧ m ≤ 0) (hb : ∀ i, 0 ≤ left.getD i 0 ∧ left.getD i 0 ≤ 500000) : ∀ k, k ≤ 6 →
    spB left G m k = m + sumN (fun i => if G.testBit i then left.getD i 0 else 0) k
  | 0, _ => by simp [spB, sumN]
  | k + 1, h => by
    have ih := spB_is hG hm hb k (by omega)
    have hbit : bitI ((G : Nat) : Int) k = G.testBit k := bit64 ⟨G, hG⟩ ⟨k, by omega⟩
    rw [spB, ih, hbit, sumN]
    have h1 := sumN_bd (f := fun i => if G.testBit i then left.getD i 0 else 0) (M := 500000) (n := k) fun i _ => by
      have := hb i
      by_cases e : G.testBit i = true
      · simp only [e, if_true]; exact this
      · simp only [e]; simp
    have h2 := hb k
    cases hs : G.testBit k with
    | false => simp
    | true =>
      simp only [if_true]
      rw [wrap_i64 (by omega)]
      omega
theorem spM_pur {inc cost : List Int} {n : Nat} (hn : n ≤ 5) (hi : inc.length = n) (hc : cost.length = n) (bi : ∀ i, 0 ≤ inc.getD i 0 ∧ inc.getD i 0 ≤ 100000) (bc : ∀ i, 0 ≤ cost.getD i 0 ∧ cost.getD i 0 ≤ 100000) {e : Int} (he : 0 ≤ e ∧ e ≤ 500000) (x : Bool) {S : Nat} (hS : S < 64) :
    spM (inc ++ if x then [e] else []) cost ((List.range n).map fun j => ((useN n x j : Nat) : Int)) S = purM (fun i => inc.getD i 0) (fun i => cost.getD i 0) (if x then e else 0) n S := by
  have h0 := sumN_bd (f := fun i => if S.testBit i then cost.getD i 0 else 0) (M := 100000) (n := n) fun i _ => by
    have := bc i
    by_cases e : S.testBit i = true
    · simp only [e, if_true]; exact this
    · simp only [e]; simp
  have hg := useG_lt hn x S n (Nat.le_refl _)
  unfold spM
  rw [hc, spA_is hn x bc hS n (Nat.le_refl _)]
  have hbl : ∀ i, 0 ≤ (inc ++ if x then [e] else []).getD i 0 ∧ (inc ++ if x then [e] else []).getD i 0 ≤ 500000 := fun i => by
    rw [List.getD_eq_getElem?_getD]
    by_cases hin : i < n
    · rw [List.getElem?_append_left (by omega), ← List.getD_eq_getElem?_getD]
      have := bi i
      omega
    · rw [List.getElem?_append_right (by omega)]
      cases x with
      | false => simp
      | true =>
        simp only [if_true]
        cases hd : i - inc.length with
        | zero => simpa using he
        | succ m => simp
  simp only []
  have hlen : (inc ++ if x then [e] else []).length ≤ 6 := by
    rw [List.length_append]
    cases x <;> simp <;> omega
  rw [spB_is hg (by omega) hbl _ hlen]
  have hlt : ∀ k, k < n → (inc ++ if x then [e] else []).getD k 0 = inc.getD k 0 := fun k hk => by
    rw [List.getD_eq_getElem?_getD, List.getElem?_append_left (by omega), ← List.getD_eq_getElem?_getD]
  have hsum : sumN (fun k => if (useG n x S n).testBit k then (inc ++ if x then [e] else []).getD k 0 else 0) n = sumN (fun k => if (List.range n).any (fun i => S.testBit i && decide (k ≤ i)) then inc.getD k 0 else 0) n := sumN_congr fun k hk => by
    have e1 : decide (k = n) = false := decide_eq_false (by omega)
    rw [useG_bit, hlt k hk, e1]
    simp only [Bool.and_false, Bool.or_false]
  unfold purM
  cases x with
  | false =>
    simp only [Bool.false_eq_true, if_false, List.append_nil] at hsum ⊢
    rw [hi, hsum]
    simp
    omega
  | true =>
    simp only [if_true] at hsum ⊢
    rw [List.length_append, hi, List.length_singleton, sumN, hsum, useG_bit]
    have e2 : ((inc ++ [e]).getD n 0) = e := by
      rw [List.getD_eq_getElem?_getD, List.getElem?_append_right (by omega), hi, Nat.sub_self]
      rfl
    have e3 : (List.range n).any (fun i => S.testBit i && (decide (n ≤ i) || (true && decide (n = n)))) = (List.range n).any (fun i => S.testBit i) := by simp
    rw [e2, e3]
    omega
end Go.SX

