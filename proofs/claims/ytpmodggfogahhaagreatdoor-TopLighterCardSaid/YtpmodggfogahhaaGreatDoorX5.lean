/- Parts of a proof: the symbolic walk and what it shows of single functions. -/
import Derived.Test.YtpmodggfogahhaaGreatDoorX3
import Derived.DeepKeys5
import Derived.WideKeyPair
set_option linter.all false
namespace Go.SX
open Go.RowKit
set_option linter.unusedSimpArgs false
set_option linter.unusedVariables false
def idx (n : Nat) : List Int := (List.range n).map fun (i : Nat) => (i : Int)
theorem idx_len (n : Nat) : (idx n).length = n := by unfold idx; rw [List.length_map, List.length_range]
def lexB : List Int → List Int → Bool
  | a :: x, b :: y => if a = b then lexB x y else decide (a < b)
  | _, _ => false
def befB (x y : List Int) : Bool := if x.length = y.length then lexB x y else decide (x.length < y.length)
theorem lexB_irr (x : List Int) : lexB x x = false := by
  induction x with
  | nil => rfl
  | cons a x ih => simp [lexB, ih]
theorem lexB_asym : ∀ {x y : List Int}, lexB x y = true → lexB y x = false := by
  intro x
  induction x with
  | nil => intro y h; simp [lexB] at h
  | cons a x ih =>
    intro y h
    cases y with
    | nil => simp [lexB] at h
    | cons b y =>
      simp only [lexB] at h ⊢
      by_cases e : a = b
      · subst e; simp only [if_true] at h ⊢; exact ih h
      · rw [if_neg e] at h; rw [if_neg (fun k => e k.symm)]
        simp only [decide_eq_true_eq, decide_eq_false_iff_not] at h ⊢
        omega
theorem lexB_trans : ∀ {x y z : List Int}, lexB x y = true → lexB y z = true → lexB x z = true := by
  intro x
  induction x with
  | nil => intro y z h; simp [lexB] at h
  | cons a x ih =>
    intro y z h h2
    cases y with
    | nil => simp [lexB] at h
    | cons b y =>
      cases z with
      | nil => simp [lexB] at h2
      | cons c z =>
        simp only [lexB] at h h2 ⊢
        by_cases e : a = b
        · subst e
          simp only [if_true] at h
          by_cases e2 : a = c
          · rw [if_pos e2] at h2 ⊢; exact ih h h2
          · rw [if_neg e2] at h2 ⊢; exact h2
        · rw [if_neg e, decide_eq_true_eq] at h
          by_cases e2 : b = c
          · subst e2; rw [if_neg e, decide_eq_true_eq]; exact h
          · rw [if_neg e2, decide_eq_true_eq] at h2
            rw [if_neg (by omega), decide_eq_true_eq]; omega
theorem lexB_tri : ∀ {x y : List Int}, x.length = y.length → lexB x y = false → lexB y x = false → x = y := by
  intro x
  induction x with
  | nil => intro y h _ _; exact (List.eq_nil_of_length_eq_zero h.symm).symm
  | cons a x ih =>
    intro y hl h h2
    cases y with
    | nil => simp at hl
    | cons b y =>
      simp only [lexB] at h h2
      by_cases e : a = b
      · subst e
        simp only [if_true] at h h2
        rw [ih (by simpa using hl) h h2]
      · rw [if_neg e, decide_eq_false_iff_not] at h
        rw [if_neg (fun k => e k.symm), decide_eq_false_iff_not] at h2
        omega
theorem befB_trans {x y z : List Int} (h : befB x y = true) (h2 : befB y z = true) : befB x z = true := by
  unfold befB at h h2 ⊢
  by_cases e1 : x.length = y.length
  · rw [if_pos e1] at h
    by_cases e2 : y.length = z.length
    · rw [if_pos e2] at h2; rw [if_pos (e1.trans e2)]; exact lexB_trans h h2
    · rw [if_neg e2, decide_eq_true_eq] at h2; rw [if_neg (by omega), decide_eq_true_eq]; omega
  · rw [if_neg e1, decide_eq_true_eq] at h
    by_cases e2 : y.length = z.length
    · rw [if_neg (by omega), decide_eq_true_eq]; omega
    · rw [if_neg e2, decide_eq_true_eq] at h2; rw [if_neg (by omega), decide_eq_true_eq]; omega
theorem befB_tri {x y : List Int} (h : befB x y = false) (h2 : befB y x = false) : x = y := by
  unfold befB at h h2
  by_cases e : x.length = y.length
  · rw [if_pos e] at h; rw [if_pos e.symm] at h2; exact lexB_tri e h h2
  · rw [if_neg e, decide_eq_false_iff_not] at h; rw [if_neg (fun k => e k.symm), decide_eq_false_iff_not] at h2; omega
theorem cmb_mem {α : Type} : ∀ {l : List α} {m : Nat} {x : List α}, x ∈ cmb m l ↔ x.Sublist l ∧ x.length = m := by
  intro l
  induction l with
  | nil =>
    intro m x
    cases m with
    | zero =>
      simp only [cmb, List.mem_singleton, List.sublist_nil]
      exact ⟨fun h => ⟨h, by rw [h]; rfl⟩, fun h => h.1⟩
    | succ m =>
      simp only [cmb, List.not_mem_nil, List.sublist_nil, false_iff]
      rintro ⟨rfl, h⟩
      cases h
  | cons a r ih =>
    intro m x
    cases m with
    | zero =>
      simp only [cmb, List.mem_singleton]
      exact ⟨fun h => by rw [h]; exact ⟨List.nil_sublist _, rfl⟩, fun h => List.eq_nil_of_length_eq_zero h.2⟩
    | succ m =>
      simp only [cmb, List.mem_append, List.mem_map]
      constructor
      · rintro (⟨y, hy, rfl⟩ | h)
        · have := ih.1 hy
          exact ⟨this.1.cons_cons a, by simp [this.2]⟩
        · have := ih.1 h
          exact ⟨this.1.cons a, this.2⟩
      · rintro ⟨h, hl⟩
        cases h with
        | cons _ h => exact .inr (ih.2 ⟨h, hl⟩)
        | cons_cons _ h => exact .inl ⟨_, ih.2 ⟨h, by simpa using hl⟩, rfl⟩
theorem cmb_sorted : ∀ {l : List Int} (m : Nat), l.Pairwise (· < ·) → (cmb m l).Pairwise fun x y => lexB x y = true := by
  intro l
  induction l with
  | nil =>
    intro m _
    cases m with
    | zero => exact List.pairwise_singleton _ _
    | succ m => exact List.Pairwise.nil
  | cons a r ih =>
    intro m h
    have h := List.pairwise_cons.1 h
    cases m with
    | zero => exact List.pairwise_singleton _ _
    | succ m =>
      refine List.pairwise_append.2 ⟨List.pairwise_map.2 ((ih m h.2).imp fun {x y} h => by simp [lexB, h]), ih (m + 1) h.2, fun x hx y hy => ?_⟩
      obtain ⟨x, _, rfl⟩ := List.mem_map.1 hx
      obtain ⟨hy1, hy2⟩ := cmb_mem.1 hy
      cases y with
      | nil => cases hy2
      | cons b y =>
        have := h.1 b (hy1.subset List.mem_cons_self)
        simp only [lexB]
        rw [if_neg (by omega), decide_eq_true_eq]
        exact this
theorem idx_succ (n : Nat) : idx (n + 1) = idx n ++ [(n : Int)] := by unfold idx; rw [List.range_succ, List.map_append]; rfl
theorem idx_mem {n : Nat} {i : Int} : i ∈ idx n ↔ 0 ≤ i ∧ i < n := by
  unfold idx
  rw [List.mem_map]
  constructor
  · rintro ⟨k, hk, rfl⟩
    rw [List.mem_range] at hk
    omega
  · intro h
    exact ⟨i.toNat, by rw [List.mem_range]; omega, by omega⟩
theorem idx_sorted (n : Nat) : (idx n).Pairwise (· < ·) := by
  induction n with
  | zero => exact List.Pairwise.nil
  | succ n ih =>
    rw [idx_succ]
    refine List.pairwise_append.2 ⟨ih, List.pairwise_singleton _ _, fun x hx y hy => ?_⟩
    rw [List.mem_singleton] at hy
    have := idx_mem.1 hx
    omega
def fstL (P : List Int → Bool) (n : Nat) : Option (List Int) := (List.range (n + 1)).findSome? fun m => (cmb m (idx n)).find? P
theorem fs_none {β : Type} (f : Nat → Option β) : ∀ n, (∀ m, m < n → f m = none) → (List.range n).findSome? f = none := by
  intro n
  induction n with
  | zero => intro _; rfl
  | succ n ih =>
    intro h
    rw [List.range_succ, List.findSome?_append, ih fun m hm => h m (by omega)]
    simp [h n (by omega)]
theorem fs_some {β : Type} (f : Nat → Option β) {k : Nat} {x : β} (h0 : ∀ m, m < k → f m = none) (h1 : f k = some x) : ∀ n, k < n → (List.range n).findSome? f = some x := by
  intro n
  induction n with
  | zero => intro h; omega
  | succ n ih =>
    intro h
    rw [List.range_succ, List.findSome?_append]
    by_cases e : k = n
    · subst e
      rw [fs_none f k h0]
      simp [h1]
    · rw [ih (by omega)]
      rfl
def Best (P : List Int → Bool) (n : Nat) (x : List Int) : Prop := x.Sublist (idx n) ∧ P x = true ∧ ∀ y, y.Sublist (idx n) → P y = true → befB y x = false
theorem Best.uniq {P : List Int → Bool} {n : Nat} {x y : List Int} (hx : Best P n x) (hy : Best P n y) : x = y := befB_tri (hy.2.2 x hx.1 hx.2.1) (hx.2.2 y hy.1 hy.2.1)
theorem sub_len {n : Nat} {y : List Int} (h : y.Sublist (idx n)) : y.length ≤ n := by have := h.length_le; rwa [idx_len] at this
theorem fst_none {P : List Int → Bool} {n : Nat} (h : fstL P n = none) : ∀ y, y.Sublist (idx n) → P y = false := by
  intro y hy
  have := (List.findSome?_eq_none_iff.1 h) y.length (by rw [List.mem_range]; have := sub_len hy; omega)
  have := List.find?_eq_none.1 this y (cmb_mem.2 ⟨hy, rfl⟩)
  simpa using this
theorem fst_some {P : List Int → Bool} {n : Nat} {x : List Int} (h : fstL P n = some x) : Best P n x := by
  have hx : ∃ k, k < n + 1 ∧ (∀ m, m < k → (cmb m (idx n)).find? P = none) ∧ (cmb k (idx n)).find? P = some x := by
    refine Classical.byContradiction fun hc => ?_
    have : ∀ k, k ≤ n + 1 → ∀ m, m < k → (cmb m (idx n)).find? P = none := by
      intro k
      induction k with
      | zero => intro _ m hm; omega
      | succ k ih =>
        intro hk m hm
        by_cases e : m = k
        · subst e
          cases hf : (cmb m (idx n)).find? P with
          | none => rfl
          | some y =>
            have h1 := fs_some (fun m => (cmb m (idx n)).find? P) (ih (by omega)) hf (n + 1) (by omega)
            have h2 : some x = some y := h.symm.trans h1
            cases h2
            exact absurd ⟨m, by omega, ih (by omega), hf⟩ hc
        · exact ih (by omega) m (by omega)
    have := fs_none (fun m => (cmb m (idx n)).find? P) (n + 1) (this (n + 1) (Nat.le_refl _))
    rw [show fstL P n = none from this] at h
    cases h
  obtain ⟨k, hk, h0, h1⟩ := hx
  obtain ⟨hp, i, hi, hxi, hbef⟩ := List.find?_eq_some_iff_getElem.1 h1
  have hm := cmb_mem.1 (List.mem_of_find?_eq_some h1)
  refine ⟨hm.1, hp, fun y hy hP => ?_⟩
  unfold befB
  by_cases e : y.length = x.length
  · rw [if_pos e]
    have hy' : y ∈ cmb k (idx n) := cmb_mem.2 ⟨hy, by omega⟩
    obtain ⟨j, hj, rfl⟩ := List.getElem_of_mem hy'
    rcases Nat.lt_trichotomy j i with h3 | h3 | h3
    · have := hbef j h3
      rw [hP] at this
      cases this
    · subst h3
      rw [hxi]
      exact lexB_irr _
    · have := List.pairwise_iff_getElem.1 (cmb_sorted k (idx_sorted n)) i j hi hj h3
      rw [hxi] at this
      exact lexB_asym this
  · rw [if_neg e, decide_eq_false_iff_not]
    intro hlt
    have := List.find?_eq_none.1 (h0 y.length (by omega)) y (cmb_mem.2 ⟨hy, rfl⟩)
    exact this hP
theorem Best.fst {P : List Int → Bool} {n : Nat} {x : List Int} (h : Best P n x) : fstL P n = some x := by
  cases hf : fstL P n with
  | none => have := fst_none hf x h.1; rw [h.2.1] at this; cases this
  | some y => rw [h.uniq (fst_some hf)]
def pick (p : Nat → Bool) (n : Nat) : List Int := ((List.range n).filter p).map fun (i : Nat) => (i : Int)
theorem pick_sub (p : Nat → Bool) (n : Nat) : (pick p n).Sublist (idx n) := List.Sublist.map _ List.filter_sublist
structure MaxI (mus : List Int → Option Int) (done : List Int → Prop) (t : Int) (m : List Int) : Prop where
  all : ∀ y, done y → ∃ u, mus y = some u ∧ u ≤ t ∧ (u = t → befB y m = false)
  one : (t = -1 ∧ m = [] ∧ ∀ y, ¬ done y) ∨ (done m ∧ mus m = some t)
theorem befB_irr (y : List Int) : befB y y = false := by
  unfold befB
  rw [if_pos rfl]
  exact lexB_irr y
theorem MaxI.keep {mus : List Int → Option Int} {d : List Int → Prop} {t : Int} {m : List Int} (h : MaxI mus d t m) {y : List Int} {u : Int} (hy : mus y = some u) (h0 : 0 ≤ u) (hu : u ≤ t) (hb : u = t → befB y m = false) : MaxI mus (fun z => d z ∨ z = y) t m := by
  refine ⟨fun z hz => ?_, ?_⟩
  · rcases hz with hz | rfl
    · exact h.all z hz
    · exact ⟨u, hy, hu, hb⟩
  · rcases h.one with ⟨h1, _⟩ | ⟨h1, h2⟩
    · omega
    · exact .inr ⟨.inl h1, h2⟩
theorem MaxI.before {mus : List Int → Option Int} {d : List Int → Prop} {t : Int} {m : List Int} (h : MaxI mus d t m) {y : List Int} (hy : mus y = some t) (hb : befB y m = true) : MaxI mus (fun z => d z ∨ z = y) t y := by
  refine ⟨fun z hz => ?_, .inr ⟨.inr rfl, hy⟩⟩
  rcases hz with hz | rfl
  · obtain ⟨v, h1, h2, h3⟩ := h.all z hz
    refine ⟨v, h1, h2, fun e => ?_⟩
    cases hc : befB z y with
    | false => rfl
    | true =>
      have := befB_trans hc hb
      rw [h3 e] at this
      cases this
  · exact ⟨t, hy, Int.le_refl _, fun _ => befB_irr z⟩
theorem MaxI.congr {mus : List Int → Option Int} {d d' : List Int → Prop} {t : Int} {m : List Int} (h : MaxI mus d t m) (hd : ∀ y, d y ↔ d' y) : MaxI mus d' t m :=
  ⟨fun y hy => h.all y ((hd y).2 hy), h.one.imp (fun ⟨a, b, c⟩ => ⟨a, b, fun y hy => c y ((hd y).2 hy)⟩) fun ⟨a, b⟩ => ⟨(hd m).1 a, b⟩⟩
end Go.SX

namespace Go.SX
set_option linter.unusedSimpArgs false
set_option linter.unusedVariables false
def NV : Int := 1073741824
structure Crs where
  n : Nat
  nr : Nat → Nat → Bool
  T : Nat
  cost : Nat → Nat → Int
  M : Int
structure Crs.Ok (g : Crs) : Prop where
  sym : ∀ x y, x < g.n → y < g.n → g.nr x y = g.nr y x
  cost : ∀ t x, g.cost t x = NV ∨ 0 ≤ g.cost t x ∧ g.cost t x ≤ g.M
  M0 : 0 ≤ g.M
  T1 : 1 ≤ g.T
  TM : (g.T : Int) * g.M < NV
def Crs.mins (g : Crs) (row : Nat → Int) (x : Nat) : Nat → Int
  | 0 => NV
  | m + 1 => if g.nr x m = true ∧ row m < g.mins row x m then row m else g.mins row x m
theorem Crs.mins_top (g : Crs) (row : Nat → Int) (x : Nat) : ∀ m, g.mins row x m ≤ NV
  | 0 => Int.le_refl _
  | m + 1 => by
    have := g.mins_top row x m
    unfold mins
    split
    · rename_i h
      omega
    · exact this
theorem Crs.mins_le (g : Crs) (row : Nat → Int) (x : Nat) {y : Nat} (hn : g.nr x y = true) : ∀ m, y < m → g.mins row x m ≤ row y
  | 0, h => by omega
  | m + 1, h => by
    unfold mins
    by_cases e : y = m
    · subst e
      split
      · exact Int.le_refl _
      · rename_i h1
        have : ¬ row y < g.mins row x y := fun h2 => h1 ⟨hn, h2⟩
        omega
    · have := g.mins_le row x hn m (by omega)
      split
      · rename_i h1
        omega
      · exact this
theorem Crs.mins_att (g : Crs) (row : Nat → Int) (x : Nat) : ∀ m, g.mins row x m = NV ∨ ∃ y, y < m ∧ g.nr x y = true ∧ row y = g.mins row x m
  | 0 => .inl rfl
  | m + 1 => by
    unfold mins
    split
    · rename_i h
      exact .inr ⟨m, by omega, h.1, rfl⟩
    · rcases g.mins_att row x m with h | ⟨y, h1, h2, h3⟩
      · exact .inl h
      · exact .inr ⟨y, by omega, h2, h3⟩
def Crs.onw (g : Crs) : Nat → Nat → Int
  | 0, x => g.cost (g.T - 1) x
  | k + 1, x => min NV (g.cost (g.T - 1 - (k + 1)) x + g.mins (g.onw k) x g.n)
def Crs.bef (g : Crs) : Nat → Nat → Int
  | 0, _ => 0
  | t + 1, x => g.mins (fun y => min NV (g.bef t y + g.cost t y)) x g.n
def Crs.thr (g : Crs) (t x : Nat) : Int := min NV (g.bef t x + g.onw (g.T - 1 - t) x)
def Crs.isC (g : Crs) : List Nat → Prop
  | [] => True
  | [x] => x < g.n
  | x :: y :: l => x < g.n ∧ g.nr x y = true ∧ g.isC (y :: l)
def Crs.tot (g : Crs) : Nat → List Nat → Int
  | _, [] => 0
  | t, x :: l => g.cost t x + g.tot (t + 1) l
def Crs.can (g : Crs) : Nat → List Nat → Prop
  | _, [] => True
  | t, x :: l => g.cost t x < NV ∧ g.can (t + 1) l
theorem Crs.isC_tail {g : Crs} {x : Nat} {l : List Nat} (h : g.isC (x :: l)) : x < g.n ∧ g.isC l := by
  cases l with
  | nil => exact ⟨h, trivial⟩
  | cons y l => exact ⟨h.1, h.2.2⟩
theorem mulM {M : Int} (h : 0 ≤ M) {a b : Nat} (hab : a ≤ b) : (a : Int) * M ≤ (b : Int) * M := Int.mul_le_mul_of_nonneg_right (by omega) h
theorem Crs.Ok.small {g : Crs} (h : g.Ok) {k : Nat} (hk : k ≤ g.T) : (k : Int) * g.M < NV := by
  have := mulM h.M0 hk
  have := h.TM
  omega
theorem Crs.onw_bd {g : Crs} (h : g.Ok) : ∀ k x, k + 1 ≤ g.T → g.onw k x = NV ∨ 0 ≤ g.onw k x ∧ g.onw k x ≤ ((k + 1 : Nat) : Int) * g.M
  | 0, x, _ => by
    rcases h.cost (g.T - 1) x with h1 | h1
    · exact .inl h1
    · exact .inr ⟨h1.1, by unfold onw; simp; exact h1.2⟩
  | k + 1, x, hk => by
    unfold onw
    have hs := h.small (k := k + 1 + 1) hk
    have e : ((k + 1 + 1 : Nat) : Int) * g.M = ((k + 1 : Nat) : Int) * g.M + g.M := by rw [Int.natCast_add (k + 1) 1, Int.add_mul]; simp
    rcases h.cost (g.T - 1 - (k + 1)) x with h1 | h1
    · left
      have h3 := g.mins_att (g.onw k) x g.n
      have : 0 ≤ g.mins (g.onw k) x g.n := by
        rcases h3 with h3 | ⟨y, _, _, h3⟩
        · rw [h3]; decide
        · have h2 := Crs.onw_bd h k y (by omega)
          have : (0 : Int) ≤ NV := by decide
          omega
      omega
    · rcases g.mins_att (g.onw k) x g.n with h3 | ⟨y, _, _, h3⟩
      · left
        omega
      · rw [← h3]
        rcases Crs.onw_bd h k y (by omega) with h2 | h2
        · left; omega
        · right; omega
theorem Crs.onw_le {g : Crs} (h : g.Ok) : ∀ k x l, k + 1 ≤ g.T → l.length = k → g.isC (x :: l) → g.can (g.T - 1 - k) (x :: l) → g.onw k x ≤ g.tot (g.T - 1 - k) (x :: l)
  | 0, x, l, hk, hl, _, _ => by
    have := List.eq_nil_of_length_eq_zero hl
    subst this
    unfold onw tot tot
    simp
  | k + 1, x, l, hk, hl, hc, ha => by
    cases l with
    | nil => simp at hl
    | cons y l =>
      have hy := (Crs.isC_tail hc.2.2).1
      have h1 := Crs.onw_le h k y l (by omega) (by simpa using hl) hc.2.2 (by
        have := ha.2
        rwa [show g.T - 1 - (k + 1) + 1 = g.T - 1 - k by omega] at this)
      have h2 := g.mins_le (g.onw k) x hc.2.1 g.n hy
      unfold onw tot
      rw [show g.T - 1 - (k + 1) + 1 = g.T - 1 - k by omega]
      omega
theorem Crs.onw_att {g : Crs} (h : g.Ok) : ∀ k x, k + 1 ≤ g.T → x < g.n → g.onw k x < NV → ∃ l, l.length = k ∧ g.isC (x :: l) ∧ g.can (g.T - 1 - k) (x :: l) ∧ g.tot (g.T - 1 - k) (x :: l) = g.onw k x
  | 0, x, hk, hx, hv => ⟨[], rfl, hx, ⟨hv, trivial⟩, by unfold onw tot tot; simp⟩
  | k + 1, x, hk, hx, hv => by
    unfold onw at hv ⊢
    have hmt := g.mins_top (g.onw k) x g.n
    have hc := h.cost (g.T - 1 - (k + 1)) x
    have hm0 : 0 ≤ g.mins (g.onw k) x g.n := by
      rcases g.mins_att (g.onw k) x g.n with h3 | ⟨y, _, _, h3⟩
      · rw [h3]; decide
      · have h2 := Crs.onw_bd h k y (by omega)
        have : (0 : Int) ≤ NV := by decide
        omega
    have hnv : (0 : Int) ≤ NV := by decide
    have hcl : g.cost (g.T - 1 - (k + 1)) x < NV := by omega
    rcases g.mins_att (g.onw k) x g.n with h3 | ⟨y, hy, hn, h3⟩
    · omega
    · obtain ⟨l, a1, a2, a3, a4⟩ := Crs.onw_att h k y (by omega) hy (by omega)
      have e : g.T - 1 - (k + 1) + 1 = g.T - 1 - k := by omega
      refine ⟨y :: l, by simp [a1], ⟨hx, hn, a2⟩, ⟨hcl, by rw [e]; exact a3⟩, ?_⟩
      rw [tot, e, a4, h3]
      omega
theorem Crs.isC_snoc {g : Crs} : ∀ {L : List Nat} {x y : Nat}, g.isC (L ++ [x]) → y < g.n → g.nr x y = true → g.isC (L ++ [x] ++ [y])
  | [], x, y, h, hy, hn => ⟨h, hn, hy⟩
  | [a], x, y, h, hy, hn => ⟨h.1, h.2.1, h.2.2, hn, hy⟩
  | a :: b :: L, x, y, h, hy, hn => ⟨h.1, h.2.1, Crs.isC_snoc (L := b :: L) h.2.2 hy hn⟩
theorem Crs.isC_pre {g : Crs} : ∀ {L : List Nat} {x y : Nat}, g.isC (L ++ [x] ++ [y]) → g.isC (L ++ [x]) ∧ g.nr x y = true ∧ y < g.n
  | [], x, y, h => ⟨h.1, h.2.1, h.2.2⟩
  | [a], x, y, h => ⟨⟨h.1, h.2.1, h.2.2.1⟩, h.2.2.2.1, h.2.2.2.2⟩
  | a :: b :: L, x, y, h => by
    have := Crs.isC_pre (L := b :: L) h.2.2
    exact ⟨⟨h.1, h.2.1, this.1⟩, this.2⟩
theorem Crs.tot_append {g : Crs} : ∀ (L R : List Nat) (t : Nat), g.tot t (L ++ R) = g.tot t L + g.tot (t + L.length) R
  | [], R, t => by simp [tot]
  | a :: L, R, t => by
    have := Crs.tot_append (g := g) L R (t + 1)
    simp only [List.cons_append, tot, List.length_cons]
    rw [this, show t + 1 + L.length = t + (L.length + 1) by omega]
    omega
theorem Crs.can_append {g : Crs} : ∀ (L R : List Nat) (t : Nat), g.can t (L ++ R) ↔ g.can t L ∧ g.can (t + L.length) R
  | [], R, t => by simp [can]
  | a :: L, R, t => by
    have := Crs.can_append (g := g) L R (t + 1)
    simp only [List.cons_append, can, List.length_cons]
    rw [this, show t + 1 + L.length = t + (L.length + 1) by omega]
    exact ⟨fun h => ⟨⟨h.1, h.2.1⟩, h.2.2⟩, fun h => ⟨h.1.1, h.1.2, h.2⟩⟩
theorem Crs.bef_bd {g : Crs} (h : g.Ok) : ∀ t x, t ≤ g.T → g.bef t x = NV ∨ 0 ≤ g.bef t x ∧ g.bef t x ≤ (t : Int) * g.M
  | 0, x, _ => .inr ⟨Int.le_refl _, by simp [bef]⟩
  | t + 1, x, ht => by
    unfold bef
    rcases g.mins_att (fun y => min NV (g.bef t y + g.cost t y)) x g.n with h3 | ⟨y, _, _, h3⟩
    · exact .inl h3
    · rw [← h3]
      have hnv : (0 : Int) ≤ NV := by decide
      have e : ((t + 1 : Nat) : Int) * g.M = (t : Int) * g.M + g.M := by rw [Int.natCast_add t 1, Int.add_mul]; simp
      have hs := h.small (k := t + 1) ht
      have hM := h.M0
      have h0 : 0 ≤ (t : Int) * g.M := Int.mul_nonneg (by omega) hM
      rcases Crs.bef_bd h t y (by omega) with h2 | h2 <;> rcases h.cost t y with h1 | h1 <;> omega
theorem Crs.bef_le {g : Crs} (h : g.Ok) : ∀ t x L, t ≤ g.T → L.length = t → g.isC (L ++ [x]) → g.can 0 L → g.bef t x ≤ g.tot 0 L
  | 0, x, L, _, hl, _, _ => by
    have := List.eq_nil_of_length_eq_zero hl
    subst this
    exact Int.le_refl _
  | t + 1, x, L, ht, hl, hc, ha => by
    obtain ⟨P, y, rfl⟩ : ∃ P y, L = P ++ [y] := ⟨L.dropLast, L.getLast (by intro e; rw [e] at hl; simp at hl), (List.dropLast_concat_getLast _).symm⟩
    have hP : P.length = t := by simpa using hl
    obtain ⟨c1, c2, c3⟩ := Crs.isC_pre hc
    have a1 := (Crs.can_append P [y] 0).1 ha
    have h1 := Crs.bef_le h t y P (by omega) hP c1 a1.1
    have hyn : y < g.n := by
      clear h1 a1 ha hl hP
      induction P with
      | nil => exact c1
      | cons a P ih => exact ih (Crs.isC_tail hc).2 (Crs.isC_tail c1).2
    have h2 := g.mins_le (fun y => min NV (g.bef t y + g.cost t y)) x (y := y) (by rw [h.sym x y c3 hyn]; exact c2) g.n hyn
    unfold bef
    rw [Crs.tot_append, hP, Nat.zero_add]
    simp only [tot] at h2 ⊢
    omega
theorem Crs.bef_att {g : Crs} (h : g.Ok) : ∀ t x, t ≤ g.T → x < g.n → g.bef t x < NV → ∃ L, L.length = t ∧ g.isC (L ++ [x]) ∧ g.can 0 L ∧ g.tot 0 L = g.bef t x
  | 0, x, _, hx, _ => ⟨[], rfl, hx, trivial, rfl⟩
  | t + 1, x, ht, hx, hv => by
    unfold bef at hv ⊢
    have hnv : (0 : Int) ≤ NV := by decide
    rcases g.mins_att (fun y => min NV (g.bef t y + g.cost t y)) x g.n with h3 | ⟨y, hy, hn, h3⟩
    · omega
    · have hb := Crs.bef_bd h t y (by omega)
      have hc := h.cost t y
      have hM := h.M0
      obtain ⟨L, a1, a2, a3, a4⟩ := Crs.bef_att h t y (by omega) hy (by omega)
      refine ⟨L ++ [y], by simp [a1], Crs.isC_snoc a2 hx (by rw [h.sym y x hy hx]; exact hn), (Crs.can_append _ _ _).2 ⟨a3, by rw [a1, Nat.zero_add]; exact ⟨by omega, trivial⟩⟩, ?_⟩
      rw [Crs.tot_append, a1, Nat.zero_add, a4]
      simp only [tot]
      omega
theorem Crs.isC_glue {g : Crs} : ∀ {L R : List Nat} {x : Nat}, g.isC (L ++ [x]) → g.isC (x :: R) → g.isC (L ++ x :: R)
  | [], R, x, _, h => h
  | [a], R, x, h, h2 => ⟨h.1, h.2.1, h2⟩
  | a :: b :: L, R, x, h, h2 => ⟨h.1, h.2.1, Crs.isC_glue (L := b :: L) h.2.2 h2⟩
theorem Crs.isC_cut {g : Crs} : ∀ {L R : List Nat} {x : Nat}, g.isC (L ++ x :: R) → g.isC (L ++ [x]) ∧ g.isC (x :: R)
  | [], R, x, h => ⟨(Crs.isC_tail h).1, h⟩
  | [a], R, x, h => ⟨⟨h.1, h.2.1, (Crs.isC_tail h.2.2).1⟩, h.2.2⟩
  | a :: b :: L, R, x, h => by
    have := Crs.isC_cut (L := b :: L) h.2.2
    exact ⟨⟨h.1, h.2.1, this.1⟩, this.2⟩
theorem Crs.thr_le {g : Crs} (h : g.Ok) {L R : List Nat} {x : Nat} (hl : (L ++ x :: R).length = g.T) (hc : g.isC (L ++ x :: R)) (ha : g.can 0 (L ++ x :: R)) : g.thr L.length x ≤ g.tot 0 (L ++ x :: R) := by
  rw [List.length_append, List.length_cons] at hl
  obtain ⟨c1, c2⟩ := Crs.isC_cut hc
  obtain ⟨a1, a2⟩ := (Crs.can_append L (x :: R) 0).1 ha
  have h1 := Crs.bef_le h L.length x L (by omega) rfl c1 a1
  have h2 := Crs.onw_le h (g.T - 1 - L.length) x R (by omega) (by omega) c2 (by rw [show g.T - 1 - (g.T - 1 - L.length) = 0 + L.length by omega]; exact a2)
  rw [show g.T - 1 - (g.T - 1 - L.length) = 0 + L.length by omega] at h2
  rw [Crs.tot_append]
  unfold thr
  omega
theorem Crs.thr_att {g : Crs} (h : g.Ok) {t x : Nat} (ht : t < g.T) (hx : x < g.n) (hv : g.thr t x < NV) : ∃ L R, L.length = t ∧ (L ++ x :: R).length = g.T ∧ g.isC (L ++ x :: R) ∧ g.can 0 (L ++ x :: R) ∧ g.tot 0 (L ++ x :: R) = g.thr t x := by
  unfold thr at hv ⊢
  have hnv : (0 : Int) ≤ NV := by decide
  have hb := Crs.bef_bd h t x (by omega)
  have ho := Crs.onw_bd h (g.T - 1 - t) x (by omega)
  obtain ⟨L, a1, a2, a3, a4⟩ := Crs.bef_att h t x (by omega) hx (by omega)
  obtain ⟨R, b1, b2, b3, b4⟩ := Crs.onw_att h (g.T - 1 - t) x (by omega) hx (by omega)
  rw [show g.T - 1 - (g.T - 1 - t) = 0 + t by omega] at b3 b4
  refine ⟨L, R, a1, by rw [List.length_append, List.length_cons]; omega, Crs.isC_glue a2 b2, (Crs.can_append _ _ _).2 ⟨a3, by rw [a1]; exact b3⟩, ?_⟩
  rw [Crs.tot_append, a1, a4, b4]
  omega
end Go.SX

namespace Go.SX
set_option linter.unusedSimpArgs false
set_option linter.unusedVariables false
def zs (l : List Nat) : List Int := l.map fun (i : Nat) => (i : Int)
def fstC (p : Nat → Bool) (n : Nat) : Option Nat := (List.range n).find? p
theorem fstC_some {p : Nat → Bool} {n y : Nat} (h : fstC p n = some y) : p y = true ∧ y < n ∧ ∀ z, z < y → p z = false := by
  obtain ⟨h1, h2, h3⟩ := List.find?_range_eq_some.1 h
  exact ⟨h1, List.mem_range.1 h2, fun z hz => by simpa using h3 z hz⟩
theorem fstC_hit {p : Nat → Bool} {n y : Nat} (hy : y < n) (hp : p y = true) : ∃ z, fstC p n = some z ∧ z ≤ y := by
  cases h : fstC p n with
  | none =>
    have := List.find?_eq_none.1 h y (List.mem_range.2 hy)
    exact absurd hp this
  | some z =>
    obtain ⟨_, _, h3⟩ := fstC_some h
    refine ⟨z, rfl, Nat.le_of_not_lt fun hlt => ?_⟩
    rw [h3 y hlt] at hp
    cases hp
def Crs.grd (g : Crs) : Nat → Nat → Int → List Nat
  | 0, _, _ => []
  | k + 1, x, left => match fstC (fun y => g.nr x y && decide (g.onw k y = left)) g.n with
    | some y => y :: g.grd k y (left - g.cost (g.T - 1 - k) y)
    | none => []
theorem Crs.onw_parts {g : Crs} (h : g.Ok) {k x : Nat} (hk : k + 1 + 1 ≤ g.T) (hv : g.onw (k + 1) x < NV) : g.mins (g.onw k) x g.n = g.onw (k + 1) x - g.cost (g.T - 1 - (k + 1)) x ∧ ∃ y, y < g.n ∧ g.nr x y = true ∧ g.onw k y = g.onw (k + 1) x - g.cost (g.T - 1 - (k + 1)) x ∧ g.onw k y < NV := by
  have hnv : (0 : Int) ≤ NV := by decide
  have hc := h.cost (g.T - 1 - (k + 1)) x
  have hm := g.mins_top (g.onw k) x g.n
  have e : g.onw (k + 1) x = min NV (g.cost (g.T - 1 - (k + 1)) x + g.mins (g.onw k) x g.n) := rfl
  rcases g.mins_att (g.onw k) x g.n with h3 | ⟨y, hy, hn, h3⟩
  · omega
  · have hb := Crs.onw_bd h k y (by omega)
    exact ⟨by omega, y, hy, hn, by omega, by omega⟩
theorem Crs.grd_ok {g : Crs} (h : g.Ok) : ∀ k x, k + 1 ≤ g.T → x < g.n → g.onw k x < NV → (g.grd k x (g.onw k x - g.cost (g.T - 1 - k) x)).length = k ∧ g.isC (x :: g.grd k x (g.onw k x - g.cost (g.T - 1 - k) x)) ∧ g.can (g.T - 1 - k) (x :: g.grd k x (g.onw k x - g.cost (g.T - 1 - k) x)) ∧ g.tot (g.T - 1 - k) (x :: g.grd k x (g.onw k x - g.cost (g.T - 1 - k) x)) = g.onw k x
  | 0, x, hk, hx, hv => by
    unfold grd
    exact ⟨rfl, hx, ⟨hv, trivial⟩, by unfold onw tot tot; simp⟩
  | k + 1, x, hk, hx, hv => by
    have hnv : (0 : Int) ≤ NV := by decide
    obtain ⟨hm, y0, hy0, hn0, he0, hl0⟩ := Crs.onw_parts h hk hv
    obtain ⟨y, hy, _⟩ := fstC_hit (p := fun y => g.nr x y && decide (g.onw k y = g.onw (k + 1) x - g.cost (g.T - 1 - (k + 1)) x)) hy0 (by simp [hn0, he0])
    obtain ⟨p1, p2, _⟩ := fstC_some hy
    rw [Bool.and_eq_true, decide_eq_true_eq] at p1
    have hyv : g.onw k y < NV := by omega
    obtain ⟨a1, a2, a3, a4⟩ := Crs.grd_ok h k y (by omega) p2 hyv
    have hc := h.cost (g.T - 1 - (k + 1)) x
    have hb := Crs.onw_bd h k y (by omega)
    have e : g.T - 1 - (k + 1) + 1 = g.T - 1 - k := by omega
    unfold grd
    rw [hy]
    simp only []
    rw [← p1.2]
    refine ⟨by rw [List.length_cons, a1], ⟨hx, p1.1, a2⟩, ⟨by omega, by rw [e]; exact a3⟩, ?_⟩
    rw [tot, e, a4]
    omega
theorem Crs.grd_first {g : Crs} (h : g.Ok) : ∀ k x l, k + 1 ≤ g.T → l.length = k → g.isC (x :: l) → g.can (g.T - 1 - k) (x :: l) → g.onw k x < NV → g.tot (g.T - 1 - k) (x :: l) = g.onw k x → lexB (zs l) (zs (g.grd k x (g.onw k x - g.cost (g.T - 1 - k) x))) = false
  | 0, x, l, hk, hl, _, _, _, _ => by
    have := List.eq_nil_of_length_eq_zero hl
    subst this
    rfl
  | k + 1, x, l, hk, hl, hc, ha, hv, ht => by
    cases l with
    | nil => simp at hl
    | cons y' l =>
      have hnv : (0 : Int) ≤ NV := by decide
      obtain ⟨hm, _⟩ := Crs.onw_parts h hk hv
      have e : g.T - 1 - (k + 1) + 1 = g.T - 1 - k := by omega
      have ha2 : g.can (g.T - 1 - k) (y' :: l) := by rw [← e]; exact ha.2
      have hy' := (Crs.isC_tail hc.2.2).1
      have h1 := Crs.onw_le h k y' l (by omega) (by simpa using hl) hc.2.2 ha2
      have h2 := g.mins_le (g.onw k) x hc.2.1 g.n hy'
      rw [tot, e] at ht
      have h3 : g.onw k y' = g.onw (k + 1) x - g.cost (g.T - 1 - (k + 1)) x := by omega
      obtain ⟨y, hy, hle⟩ := fstC_hit (p := fun y => g.nr x y && decide (g.onw k y = g.onw (k + 1) x - g.cost (g.T - 1 - (k + 1)) x)) hy' (by simp [hc.2.1, h3])
      obtain ⟨p1, p2, _⟩ := fstC_some hy
      rw [Bool.and_eq_true, decide_eq_true_eq] at p1
      unfold grd
      rw [hy]
      simp only [zs, List.map_cons, lexB]
      by_cases ey : y' = y
      · subst ey
        rw [if_pos rfl, ← h3]
        have hc2 := h.cost (g.T - 1 - (k + 1)) x
        have hb := Crs.onw_bd h k y' (by omega)
        exact Crs.grd_first h k y' l (by omega) (by simpa using hl) hc.2.2 ha2 (by omega) (by omega)
      · rw [if_neg (by omega), decide_eq_false_iff_not]
        omega
def Crs.leastC (g : Crs) (m : Nat) : Int := match m with
  | 0 => NV
  | m + 1 => min (g.leastC m) (g.onw (g.T - 1) m)
theorem Crs.leastC_le (g : Crs) {x : Nat} : ∀ m, x < m → g.leastC m ≤ g.onw (g.T - 1) x
  | 0, h => by omega
  | m + 1, h => by
    unfold leastC
    by_cases e : x = m
    · subst e; omega
    · have := g.leastC_le m (x := x) (by omega)
      omega
theorem Crs.leastC_att (g : Crs) : ∀ m, g.leastC m = NV ∨ ∃ x, x < m ∧ g.onw (g.T - 1) x = g.leastC m
  | 0 => .inl rfl
  | m + 1 => by
    unfold leastC
    by_cases e : g.onw (g.T - 1) m < g.leastC m
    · exact .inr ⟨m, by omega, by omega⟩
    · rcases g.leastC_att m with h | ⟨x, h1, h2⟩
      · exact .inl (by omega)
      · exact .inr ⟨x, by omega, by omega⟩
theorem Crs.leastC_top (g : Crs) : ∀ m, g.leastC m ≤ NV
  | 0 => Int.le_refl _
  | m + 1 => by have := g.leastC_top m; unfold leastC; omega
def Crs.least (g : Crs) : Int := g.leastC g.n
def Crs.first (g : Crs) : List Nat := match fstC (fun x => decide (g.onw (g.T - 1) x = g.least)) g.n with
  | some x => x :: g.grd (g.T - 1) x (g.least - g.cost 0 x)
  | none => []
def Crs.Course (g : Crs) (L : List Nat) : Prop := L.length = g.T ∧ g.isC L ∧ g.can 0 L
theorem Crs.least_le {g : Crs} (h : g.Ok) {L : List Nat} (hL : g.Course L) : g.least ≤ g.tot 0 L := by
  obtain ⟨h1, h2, h3⟩ := hL
  have hT := h.T1
  cases L with
  | nil => simp at h1; omega
  | cons x l =>
    have hx := (Crs.isC_tail h2).1
    rw [List.length_cons] at h1
    have := Crs.onw_le h (g.T - 1) x l (by omega) (by omega) h2 (by rw [Nat.sub_self]; exact h3)
    rw [Nat.sub_self] at this
    have := g.leastC_le g.n hx
    unfold least
    omega
theorem Crs.first_ok {g : Crs} (h : g.Ok) (hv : g.least < NV) : g.Course g.first ∧ g.tot 0 g.first = g.least ∧ ∀ L, g.Course L → g.tot 0 L = g.least → lexB (zs L) (zs g.first) = false := by
  have hT := h.T1
  obtain ⟨x0, hx0, he0⟩ : ∃ x, x < g.n ∧ g.onw (g.T - 1) x = g.least := by
    unfold least at hv ⊢
    rcases g.leastC_att g.n with h1 | h1
    · omega
    · exact h1
  obtain ⟨x, hx, _⟩ := fstC_hit (p := fun x => decide (g.onw (g.T - 1) x = g.least)) hx0 (decide_eq_true he0)
  obtain ⟨p1, p2, p3⟩ := fstC_some hx
  have p1 := of_decide_eq_true p1
  have hg := Crs.grd_ok h (g.T - 1) x (by omega) p2 (by omega)
  rw [Nat.sub_self, p1] at hg
  have hf : g.first = x :: g.grd (g.T - 1) x (g.least - g.cost 0 x) := by unfold first; rw [hx]
  rw [hf]
  refine ⟨⟨by rw [List.length_cons, hg.1]; omega, hg.2.1, hg.2.2.1⟩, hg.2.2.2, fun L hL ht => ?_⟩
  cases L with
  | nil => rfl
  | cons y l =>
    obtain ⟨b1, b2, b3⟩ := hL
    rw [List.length_cons] at b1
    have hy := (Crs.isC_tail b2).1
    have hle := Crs.onw_le h (g.T - 1) y l (by omega) (by omega) b2 (by rw [Nat.sub_self]; exact b3)
    rw [Nat.sub_self] at hle
    have hge := g.leastC_le g.n hy
    have hye : g.onw (g.T - 1) y = g.least := by unfold least at ht hv ⊢; omega
    simp only [zs, List.map_cons, lexB]
    by_cases e : y = x
    · subst e
      rw [if_pos rfl]
      have := Crs.grd_first h (g.T - 1) y l (by omega) (by omega) b2 (by rw [Nat.sub_self]; exact b3) (by omega) (by rw [Nat.sub_self]; omega)
      rw [Nat.sub_self, hye] at this
      exact this
    · rw [if_neg (by omega), decide_eq_false_iff_not]
      intro hlt
      have := p3 y (by omega)
      rw [decide_eq_false_iff_not] at this
      exact this hye
end Go.SX

namespace Go.SX
set_option linter.unusedSimpArgs false
set_option linter.unusedVariables false
structure Rps where
  m : Nat
  tick : Nat → Nat
  fit : Nat → Nat → Bool
def Rps.off (r : Rps) (t x i : Nat) : Bool := decide (r.tick i = t) && !r.fit i x
def Rps.sum (r : Rps) (p : Nat → Int) (t x : Nat) : Nat → Int
  | 0 => 0
  | i + 1 => if r.off t x i then min NV (r.sum p t x i + p i) else r.sum p t x i
def Rps.cost (r : Rps) (may : Nat → Nat → Bool) (p : Nat → Int) (t x : Nat) : Int := if may t x then r.sum p t x r.m else NV
def priceOk (W : Int) (p : Nat → Int) : Prop := ∀ i, p i = NV ∨ 0 ≤ p i ∧ p i ≤ W
theorem Rps.sum_bd (r : Rps) {W : Int} {p : Nat → Int} (hp : priceOk W p) (hW : 0 ≤ W) (t x : Nat) : ∀ i : Nat, (i : Int) * W < NV → r.sum p t x i = NV ∨ 0 ≤ r.sum p t x i ∧ r.sum p t x i ≤ (i : Int) * W
  | 0, _ => .inr ⟨Int.le_refl _, by simp [sum]⟩
  | i + 1, hi => by
    have e : ((i + 1 : Nat) : Int) * W = (i : Int) * W + W := by rw [Int.natCast_add i 1, Int.add_mul]; simp
    have hnv : (0 : Int) ≤ NV := by decide
    have h1 := r.sum_bd hp hW t x i (by omega)
    have h2 := hp i
    unfold sum
    split <;> omega
theorem Rps.sum_all (r : Rps) {W : Int} {p : Nat → Int} (hp : priceOk W p) (hW : 0 ≤ W) (t x : Nat) : ∀ i : Nat, (i : Int) * W < NV → (r.sum p t x i = NV ↔ ∃ j, j < i ∧ r.off t x j = true ∧ p j = NV)
  | 0, _ => ⟨fun h => by unfold sum NV at h; omega, fun ⟨j, h, _⟩ => by omega⟩
  | i + 1, hi => by
    have e : ((i + 1 : Nat) : Int) * W = (i : Int) * W + W := by rw [Int.natCast_add i 1, Int.add_mul]; simp
    have hnv : (0 : Int) ≤ NV := by decide
    have ih := r.sum_all hp hW t x i (by omega)
    have h1 := r.sum_bd hp hW t x i (by omega)
    have h2 := hp i
    unfold sum
    by_cases ho : r.off t x i = true
    · rw [if_pos ho]
      constructor
      · intro h
        by_cases hs : r.sum p t x i = NV
        · obtain ⟨j, a, b⟩ := ih.1 hs
          exact ⟨j, by omega, b⟩
        · exact ⟨i, by omega, ho, by omega⟩
      · rintro ⟨j, a, b, c⟩
        by_cases ej : j = i
        · subst ej
          omega
        · have := ih.2 ⟨j, by omega, b, c⟩
          omega
    · rw [if_neg ho, ih]
      constructor
      · rintro ⟨j, a, b⟩
        exact ⟨j, by omega, b⟩
      · rintro ⟨j, a, b, c⟩
        by_cases ej : j = i
        · subst ej
          exact absurd b ho
        · exact ⟨j, by omega, b, c⟩
theorem Rps.cost_bd (r : Rps) {W : Int} {p : Nat → Int} (hp : priceOk W p) (hW : 0 ≤ W) (hm : (r.m : Int) * W < NV) (may : Nat → Nat → Bool) (t x : Nat) : r.cost may p t x = NV ∨ 0 ≤ r.cost may p t x ∧ r.cost may p t x ≤ (r.m : Int) * W := by
  unfold cost
  split
  · exact r.sum_bd hp hW t x r.m hm
  · exact .inl rfl
theorem Rps.cost_lt (r : Rps) {W : Int} {p : Nat → Int} (hp : priceOk W p) (hW : 0 ≤ W) (hm : (r.m : Int) * W < NV) (may : Nat → Nat → Bool) (t x : Nat) : r.cost may p t x < NV ↔ may t x = true ∧ ∀ j, j < r.m → r.off t x j = true → p j ≠ NV := by
  have h1 := r.sum_all hp hW t x r.m hm
  have h2 := r.sum_bd hp hW t x r.m hm
  unfold cost
  by_cases h : may t x = true
  · rw [if_pos h]
    constructor
    · intro hlt
      exact ⟨h, fun j hj ho hn => by have := h1.2 ⟨j, hj, ho, hn⟩; omega⟩
    · rintro ⟨_, h3⟩
      have : r.sum p t x r.m ≠ NV := fun hn => by
        obtain ⟨j, a, b, c⟩ := h1.1 hn
        exact h3 j a b c
      omega
  · rw [if_neg h]
    constructor
    · intro hlt
      omega
    · exact fun h3 => absurd h3.1 h
end Go.SX

namespace Go.SX
set_option linter.unusedSimpArgs false
set_option linter.unusedVariables false
def sumN (f : Nat → Int) : Nat → Int
  | 0 => 0
  | n + 1 => sumN f n + f n
theorem sumN_congr {f g : Nat → Int} : ∀ {n : Nat}, (∀ i, i < n → f i = g i) → sumN f n = sumN g n
  | 0, _ => rfl
  | n + 1, h => by rw [sumN, sumN, sumN_congr fun i hi => h i (by omega), h n (by omega)]
theorem sumN_shift (f : Nat → Int) : ∀ n, sumN f (n + 1) = f 0 + sumN (fun i => f (i + 1)) n
  | 0 => by simp [sumN]
  | n + 1 => by rw [sumN, sumN_shift f n, sumN]; omega
theorem sumN_zero {f : Nat → Int} : ∀ {n : Nat}, (∀ i, i < n → f i = 0) → sumN f n = 0
  | 0, _ => rfl
  | n + 1, h => by rw [sumN, sumN_zero fun i hi => h i (by omega), h n (by omega)]; rfl
theorem sumN_add (f g : Nat → Int) : ∀ n, sumN (fun i => f i + g i) n = sumN f n + sumN g n
  | 0 => rfl
  | n + 1 => by rw [sumN, sumN, sumN, sumN_add f g n]; omega
theorem sumN_swap (f : Nat → Nat → Int) : ∀ n m, sumN (fun i => sumN (f i) m) n = sumN (fun j => sumN (fun i => f i j) n) m
  | 0, m => by simp only [sumN]; exact (sumN_zero fun _ _ => rfl).symm
  | n + 1, m => by
    rw [sumN, sumN_swap f n m, ← sumN_add]
    rfl
theorem sumN_one {f : Nat → Int} {k : Nat} {x : Int} : ∀ {n : Nat}, k < n → (∀ i, i < n → f i = if i = k then x else 0) → sumN f n = x
  | 0, h, _ => by omega
  | n + 1, h, hf => by
    rw [sumN, hf n (by omega)]
    by_cases e : n = k
    · rw [if_pos e, sumN_zero fun i hi => by rw [hf i (by omega), if_neg (by omega)]]
      omega
    · rw [if_neg e, sumN_one (k := k) (x := x) (by omega) fun i hi => hf i (by omega)]
      omega
theorem Crs.tot_sum (g : Crs) : ∀ (L : List Nat) (t : Nat), g.tot t L = sumN (fun j => g.cost (t + j) (L.getD j 0)) L.length
  | [], t => rfl
  | x :: l, t => by
    rw [tot, List.length_cons, sumN_shift, Crs.tot_sum g l (t + 1)]
    congr 1
    refine sumN_congr fun i _ => ?_
    rw [List.getD_cons_succ, show t + 1 + i = t + (i + 1) by omega]
theorem Crs.can_all (g : Crs) : ∀ (L : List Nat) (t : Nat), g.can t L ↔ ∀ j, j < L.length → g.cost (t + j) (L.getD j 0) < NV
  | [], t => ⟨fun _ j h => absurd h (Nat.not_lt_zero _), fun _ => trivial⟩
  | x :: l, t => by
    rw [can, Crs.can_all g l (t + 1)]
    constructor
    · rintro ⟨h1, h2⟩ j hj
      cases j with
      | zero => simpa using h1
      | succ j =>
        rw [List.length_cons] at hj
        have := h2 j (by omega)
        rw [List.getD_cons_succ, show t + (j + 1) = t + 1 + j by omega]
        exact this
    · intro h
      refine ⟨by simpa using h 0 (by simp), fun j hj => ?_⟩
      have := h (j + 1) (by rw [List.length_cons]; omega)
      rw [List.getD_cons_succ, show t + (j + 1) = t + 1 + j by omega] at this
      exact this
theorem Rps.sum_lin (r : Rps) {p : Nat → Int} (hp : ∀ i, 0 ≤ p i) (t x : Nat) : ∀ m, r.sum p t x m < NV → r.sum p t x m = sumN (fun i => if r.off t x i then p i else 0) m
  | 0, _ => rfl
  | m + 1, h => by
    have h0 := hp m
    rw [sumN]
    unfold sum at h ⊢
    by_cases ho : r.off t x m = true
    · rw [if_pos ho] at h ⊢
      rw [if_pos ho, ← Rps.sum_lin r hp t x m (by omega)]
      omega
    · rw [if_neg ho] at h ⊢
      rw [if_neg ho, Rps.sum_lin r hp t x m h]
      omega
theorem Rps.tot_eq (r : Rps) {p : Nat → Int} (hp : ∀ i, 0 ≤ p i) (may : Nat → Nat → Bool) (g : Crs) (hg : ∀ t x, g.cost t x = r.cost may p t x) {L : List Nat} (hc : g.can 0 L) (hr : ∀ i, i < r.m → r.tick i < L.length) :
    g.tot 0 L = sumN (fun i => if r.fit i (L.getD (r.tick i) 0) then 0 else p i) r.m := by
  have h1 := (g.can_all L 0).1 hc
  rw [g.tot_sum L 0, sumN_congr (g := fun j => sumN (fun i => if r.off j (L.getD j 0) i then p i else 0) r.m) fun j hj => ?_, sumN_swap]
  · refine sumN_congr fun i hi => ?_
    refine sumN_one (k := r.tick i) (hr i hi) fun j hj => ?_
    unfold Rps.off
    by_cases e : j = r.tick i
    · subst e
      rw [if_pos rfl]
      cases r.fit i (L.getD (r.tick i) 0) <;> simp
    · rw [if_neg e, decide_eq_false (fun h => e h.symm)]
      simp
  · have h2 := h1 j hj
    rw [Nat.zero_add] at h2 ⊢
    rw [hg] at h2 ⊢
    unfold Rps.cost at h2 ⊢
    by_cases hm : may j (L.getD j 0) = true
    · rw [if_pos hm] at h2 ⊢
      exact r.sum_lin hp _ _ _ h2
    · rw [if_neg hm] at h2
      omega
theorem Crs.thr_iff {g : Crs} (h : g.Ok) {t x : Nat} (ht : t < g.T) (hx : x < g.n) {n : Int} (hn : n < NV) : g.thr t x ≤ n ↔ ∃ L, g.Course L ∧ L.getD t 0 = x ∧ g.tot 0 L ≤ n := by
  constructor
  · intro h1
    obtain ⟨L, R, a1, a2, a3, a4, a5⟩ := Crs.thr_att h ht hx (by omega)
    refine ⟨L ++ x :: R, ⟨a2, a3, a4⟩, ?_, by omega⟩
    rw [List.getD_eq_getElem?_getD, List.getElem?_append_right (by omega), a1, Nat.sub_self]
    rfl
  · rintro ⟨L, ⟨c1, c2, c3⟩, e, h1⟩
    have hlt : t < L.length := by omega
    have hsp : L = L.take t ++ x :: L.drop (t + 1) := by
      have h3 : L[t] = x := by rw [← e, List.getD_eq_getElem?_getD, List.getElem?_eq_getElem hlt]; rfl
      rw [← h3, ← List.drop_eq_getElem_cons hlt, List.take_append_drop]
    have hlen : (L.take t).length = t := by rw [List.length_take]; omega
    have h2 := Crs.thr_le h (L := L.take t) (R := L.drop (t + 1)) (x := x) (by rw [← hsp]; exact c1) (by rw [← hsp]; exact c2) (by rw [← hsp]; exact c3)
    rw [hlen, ← hsp] at h2
    omega
end Go.SX

namespace Go.SX
set_option linter.unusedSimpArgs false
set_option linter.unusedVariables false
set_option maxRecDepth 10000
def RefI (P : List Int → Bool) (n s : Nat) (found : Bool) (b : List Int) : Prop :=
  (found = false ∧ b = [] ∧ ∀ s', s' < s → P (pick s'.testBit n) = false) ∨ (found = true ∧ b.Sublist (idx n) ∧ P b = true ∧ ∀ s', s' < s → P (pick s'.testBit n) = true → befB (pick s'.testBit n) b = false)
theorem RefI.zero (P : List Int → Bool) (n : Nat) : RefI P n 0 false [] := .inl ⟨rfl, rfl, fun s' h => by omega⟩
theorem RefI.no {P : List Int → Bool} {n s : Nat} {found : Bool} {b : List Int} (h : RefI P n s found b) (hP : P (pick s.testBit n) = false) : RefI P n (s + 1) found b := by
  rcases h with ⟨a1, a2, a3⟩ | ⟨a1, a2, a3, a4⟩
  · refine .inl ⟨a1, a2, fun s' hs => ?_⟩
    by_cases e : s' = s
    · rw [e]; exact hP
    · exact a3 s' (by omega)
  · refine .inr ⟨a1, a2, a3, fun s' hs hp => ?_⟩
    by_cases e : s' = s
    · rw [e, hP] at hp; cases hp
    · exact a4 s' (by omega) hp
theorem RefI.fst {P : List Int → Bool} {n s : Nat} {b : List Int} (h : RefI P n s false b) (hP : P (pick s.testBit n) = true) : RefI P n (s + 1) true (pick s.testBit n) := by
  rcases h with ⟨a1, a2, a3⟩ | ⟨a1, _⟩
  · refine .inr ⟨rfl, pick_sub _ _, hP, fun s' hs hp => ?_⟩
    by_cases e : s' = s
    · rw [e]; unfold befB; rw [if_pos rfl]; exact lexB_irr _
    · rw [a3 s' (by omega)] at hp; cases hp
  · cases a1
end Go.SX

namespace Go.SX
set_option linter.unusedSimpArgs false
set_option linter.unusedVariables false
structure Crs.Same (g h : Crs) : Prop where
  n : g.n = h.n
  T : g.T = h.T
  nr : ∀ x y, x < g.n → y < g.n → g.nr x y = h.nr x y
  cost : ∀ t x, x < g.n → g.cost t x = h.cost t x
theorem Crs.Same.mins {g h : Crs} (s : g.Same h) {r r' : Nat → Int} (hr : ∀ y, y < g.n → r y = r' y) {x : Nat} (hx : x < g.n) : ∀ m, m ≤ g.n → g.mins r x m = h.mins r' x m
  | 0, _ => rfl
  | m + 1, hm => by
    have ih := s.mins hr hx m (by omega)
    unfold Crs.mins
    rw [ih, s.nr x m hx (by omega), hr m (by omega)]
theorem Crs.Same.onw {g h : Crs} (s : g.Same h) : ∀ k x, x < g.n → g.onw k x = h.onw k x
  | 0, x, hx => by unfold Crs.onw; rw [s.T, s.cost _ _ hx]
  | k + 1, x, hx => by
    unfold Crs.onw
    rw [s.T, s.cost _ _ hx, s.mins (s.onw k) hx g.n (Nat.le_refl _), s.n]
theorem Crs.Same.leastC {g h : Crs} (s : g.Same h) : ∀ m, m ≤ g.n → g.leastC m = h.leastC m
  | 0, _ => rfl
  | m + 1, hm => by unfold Crs.leastC; rw [s.leastC m (by omega), s.T, s.onw _ m (by omega)]
theorem Crs.Same.least {g h : Crs} (s : g.Same h) : g.least = h.least := by
  unfold Crs.least
  rw [s.leastC g.n (Nat.le_refl _), s.n]
theorem fstC_congr {p q : Nat → Bool} {n : Nat} (h : ∀ x, x < n → p x = q x) : fstC p n = fstC q n := by
  have : ∀ l : List Nat, (∀ x ∈ l, p x = q x) → l.find? p = l.find? q := fun l => by
    induction l with
    | nil => exact fun _ => rfl
    | cons a l ih =>
      intro ha
      rw [List.find?_cons, List.find?_cons, ha a List.mem_cons_self, ih fun x hx => ha x (List.mem_cons_of_mem _ hx)]
  exact this _ fun x hx => h x (List.mem_range.1 hx)
theorem Crs.Same.grd {g h : Crs} (s : g.Same h) : ∀ k x left, x < g.n → g.grd k x left = h.grd k x left
  | 0, _, _, _ => rfl
  | k + 1, x, left, hx => by
    unfold Crs.grd
    rw [fstC_congr (q := fun y => h.nr x y && decide (h.onw k y = left)) fun y hy => by rw [s.nr x y hx hy, s.onw k y hy], s.n]
    cases hf : fstC (fun y => h.nr x y && decide (h.onw k y = left)) h.n with
    | none => rfl
    | some y =>
      have hy : y < g.n := by rw [s.n]; exact (fstC_some hf).2.1
      simp only []
      rw [s.T, s.cost _ y hy, s.grd k y _ hy]
theorem Crs.Same.first {g h : Crs} (s : g.Same h) : g.first = h.first := by
  unfold Crs.first
  rw [fstC_congr (q := fun x => decide (h.onw (h.T - 1) x = h.least)) fun x hx => by rw [s.T, s.onw _ x hx, s.least], s.n]
  cases hf : fstC (fun x => decide (h.onw (h.T - 1) x = h.least)) h.n with
  | none => rfl
  | some y =>
    have hy : y < g.n := by rw [s.n]; exact (fstC_some hf).2.1
    simp only []
    rw [s.T, s.least, s.cost _ y hy, s.grd _ y _ hy]
end Go.SX

namespace Go.SX
open Go.RowKit
theorem ShareJ.since {NS : List HO → Prop} {J : Option Nat → (Nat → Prop) → (Nat → Prop) → World → Prop} (h : ShareJ NS J) (w : World) (C R : Nat → Prop) : ShareJ NS (Go.SX.since w C R J) :=
  ⟨fun k C' R' w1 hj => h.1 k C' R' w1 hj.1, fun k C' R' w1 w2 S S' hj h1 h2 h3 h4 h5 => ⟨h.2 k C' R' w1 w2 S S' hj.1 h1 h2 h3 h4 h5, hj.2⟩⟩
theorem IterS.introS {P : Program} {gf n : Nat} {pre post : List Value} {arg : Nat → List Value → List HO → Prop} {A Rs : Nat → Prop} {NS : List HO → Prop} {w : World}
    (h : ∀ l J C R, (∀ b, Rs b → ¬ C b) → (∀ b, A b → ¬ C b ∧ ¬ R b) → Handler P l n arg w C A J → ShareJ NS J → HO.ok w (consu J (some 0) C R) →
      Calls P gf (pre ++ [Value.func (.yield l) #[] #[]] ++ post).toArray w fun e w' => ∃ v N, e = .returned v ∧ Keep (fun b => C b ∨ A b) w w' ∧ (∀ h ∈ N, h.ok w') ∧ iterPost n J v N) :
    IterS P gf pre post n arg A Rs NS w := by
  intro l J C R hH hJ hA hRs hS
  have hJ' : Go.SX.since w C R J (some 0) C R w := ⟨hJ, fun b hb => .inl hb, fun b hb => .inl hb⟩
  refine Calls.mono (h l _ C R hRs hA (hH.since C R) (hS.since w C R) ⟨hJ', (hH.since C R).lt _ _ _ _ hJ', fun w1 w2 hs hl hj => (hH.since C R).stable _ _ _ _ _ hs hl hj⟩) ?_
  rintro e w' ⟨v, N, rfl, hk, hok, rfl, st, C2, R2, hm, hst⟩
  have := hok _ hm
  exact ⟨st, C2, R2, rfl, hk, this.1.2.1, this.1.2.2, hst, this.1.1⟩
theorem range_introS {P : Program} {w0 : Base} {Ba Bb : XSt → St} {gf : Nat} {first cap : Array Value} {ps : List Tmp} {Q : XSt} {fr : List SV} {L : List Box} {H : List HO} (NS : List HO → Prop) (hNS : Shared NS) (hT : CallT P gf) (n : Nat) (arg : Nat → List Value → List HO → Prop) (Hc : List HO) (I : Nat → List Box → List HO → Prop) (Rs : Nat → Prop)
    (hdec : ∀ k L H, I k L H → ∃ S B, NS S ∧ H = S ++ B ∧ ∀ S', NS S' → I k L (S' ++ B))
    (hi : HImp w0 H Hc) (hRs : ∀ b, Rs b → b < w0.w.heap.size ∧ ¬ w0.X b) (hit : ∀ w, Hp w0 Hc w → IterS P gf first.toList cap.toList n arg (fun _ => False) Rs NS w) (h0 : I 0 L Hc) (hl : ∀ k vs F, arg k vs F → vs.length = ps.length)
    (hstep : ∀ k vs F L' H', k < n → arg k vs F → L'.length = L.length → I k L' H' → Hid (Ba (assignQ fun fr2 L2 H2 => Bb (rangeQ w0 L.length (I (k + 1)) Q fr) fr2 L2 H2) (setPs fr ps vs) L' (F ++ H')))
    (hend : ∀ L' H', L'.length = L.length → I n L' H' → Hid (Q .nxt fr L' H')) : RangeOb P w0 Ba Bb (.v (.func (.func gf) first cap)) ps Q fr L H :=
  ⟨hT, n, arg, [], Hc, I, fun _ => False, Rs, NS, hNS, hdec, hi, fun _ h => h.elim, fun b hb => .inl (hRs b hb), hit, h0, hl, fun k vs F L' H' h1 h2 h3 h4 => (hstep k vs F L' H' h1 h2 h3 h4).get, fun L' H' h1 h2 => (hend L' H' h1 h2).get⟩
theorem CallOb.shareH {P : Program} {w0 : Base} {f : Nat} {args : List Value} {NS : List HO → Prop} {J : Option Nat → (Nat → Prop) → (Nat → Prop) → World → Prop} {k : Nat} {C R : Nat → Prop} {H B : List HO} {kont : Value → List HO → Prop} {PostV : Value → Prop} (hJ : ShareJ NS J)
    (hi : HImp w0 H (consu J (some k) C R :: B))
    (h : ∀ w S, Hp w0 H w → NS S → (∀ h ∈ S, h.ok w) → Fn P f args w (fpsx S) fun v N => PostV v ∧ ∃ S', NS S' ∧ ∀ h ∈ S', h ∈ N)
    (hk : ∀ v, PostV v → Hid (kont v (consu J (some k) C R :: B))) : CallOb P w0 false (.fn f) args H kont := by
  intro w hp0
  have hp := (hi w hp0).1
  have hnd := List.pairwise_cons.1 hp.nd
  have hc := hp.ok (consu J (some k) C R) List.mem_cons_self
  obtain ⟨S, hS, hSok, hSC⟩ := hJ.1 k C R w hc.1
  refine Calls.mono (h w S hp0 hS hSok) fun e w' he => ?_
  obtain ⟨v, N, rfl, hkeep, hok, hold, hn, hpv, S', hS', hSN⟩ := he
  have hkS : Keep (fps S) w w' := hkeep.mono fun b hb => fps_of_fpsx hb
  have hJ' : J (some k) C R w' := hJ.2 k C R w w' S S' hc.1 hS hSok hS' (fun h hh => hok h (hSN h hh)) hkS
  have hkC : Keep C w w' := hkS.mono hSC
  have upx : ∀ b, C b → fpsx H b := fun b hb => (hi w hp0).2.2 b ⟨_, List.mem_cons_self, hb⟩
  refine ⟨v, C, consu J (some k) C R :: B, rfl, hkC, upx, ⟨hkC.into hp.ext fun b hb => hp.old _ List.mem_cons_self b hb, fun g hg => ?_, hp.old, hp.nd⟩, fun g hg b => ⟨fun hb => .inl ((hi w hp0).2.1 b ⟨g, hg, hb⟩), fun hb => .inl ((hi w hp0).2.2 b ⟨g, hg, hb⟩)⟩, (fun h => by cases h), (hk v hpv).get⟩
  rcases List.mem_cons.1 hg with rfl | hg
  · exact ⟨hJ', fun b hb => Nat.lt_of_lt_of_le (hc.2.1 b hb) hkC.size, hc.2.2⟩
  · have hw := hp.ok g (List.mem_cons_of_mem _ hg)
    exact HO.stable hw (hkC.sameOn (fun b hb => HO.lt hw hb) fun b hb hC => (hnd.1 g hg b (.inl hC) hb).1 hC)
end Go.SX

namespace Go.SX
open Go.RowKit Go.WideMaps
def KeysOk (P : Program) (k : TypeId) (es : Array MapEntry) : Prop := ∀ e ∈ es.toList, ∃ l, keyOf P k e.key = some l
theorem KeysOk.nil (P : Program) (k : TypeId) : KeysOk P k #[] := fun e h => by simp at h
theorem KeysOk.push {P : Program} {k : TypeId} {es : Array MapEntry} {key v : Value} {c : Nat} (h : KeysOk P k es) (hk : ∃ l, keyOf P k key = some l) : KeysOk P k (es.push { key := key, val := v, born := c }) := fun e he => by
  simp only [Array.toList_push, List.mem_append, List.mem_singleton] at he
  rcases he with he | rfl
  · exact h e he
  · exact hk
theorem lk_W {P : Program} {w0 : Base} {T kt et : TypeId} {b c : Nat} {es : Array MapEntry} {key z : Value} {H : List HO} {K : Value → Prop} (hm : P.underlying T = some (.map kt et)) (L : KeyLaw P kt) (hk : ∃ l, keyOf P kt key = some l) (hes : KeysOk P kt es)
    (hz : ∀ w, (zeroValue et).run P w = .ok z w) (hv : ∀ e ∈ es.toList, ∀ e' ∈ es.toList, e.key = e'.key → e.val = e'.val) (hH : HO.obj b (.map es c) ∈ H)
    (h1 : (∀ e ∈ es.toList, e.key ≠ key) → K (.tuple #[z, .bool false])) (h2 : ∀ e ∈ es.toList, e.key = key → K (.tuple #[e.val, .bool true])) : hold (LkOb P w0 T (.map (some b)) key true H K) ⟨0⟩ := by
  obtain ⟨l, hl⟩ := hk
  by_cases hx : ∃ e ∈ es.toList, e.key = key
  · obtain ⟨e, he, hek⟩ := hx
    refine ⟨.tuple #[e.val, .bool true], fun w hp => ?_, h2 e he hek⟩
    have hb : w.heap[b]? = some (.map es c) := hp.ok _ hH
    rcases L.find w hl es.toList hes with ⟨_, h⟩ | ⟨j, e', hr, hj, hk'⟩
    · exact absurd hek (h e he)
    · have : e'.val = e.val := hv e' (List.mem_of_getElem? hj) e he (hk'.trans hek.symm)
      simp [Instr.lookup, run_underlying hm, MapKept.run_getObj_map hb, L.check w _ hl, hr, Result.andThen, this]
  · have hn : ∀ e ∈ es.toList, e.key ≠ key := fun e he h => hx ⟨e, he, h⟩
    refine ⟨.tuple #[z, .bool false], fun w hp => ?_, h1 hn⟩
    have hb : w.heap[b]? = some (.map es c) := hp.ok _ hH
    rcases L.find w hl es.toList hes with ⟨hr, _⟩ | ⟨j, e', hr, hj, hk'⟩
    · simp [Instr.lookup, run_underlying hm, MapKept.run_getObj_map hb, L.check w _ hl, hr, Result.andThen, hz]
    · exact absurd hk' (hn e' (List.mem_of_getElem? hj))
theorem lk_W1 {P : Program} {w0 : Base} {T kt et : TypeId} {b c : Nat} {es : Array MapEntry} {key : Value} {e : MapEntry} {H : List HO} {K : Value → Prop} (hm : P.underlying T = some (.map kt et)) (L : KeyLaw P kt) (hk : ∃ l, keyOf P kt key = some l) (hes : KeysOk P kt es)
    (hv : ∀ e ∈ es.toList, ∀ e' ∈ es.toList, e.key = e'.key → e.val = e'.val) (hH : HO.obj b (.map es c) ∈ H) (he : e ∈ es.toList) (hek : e.key = key) (hK : K e.val) : hold (LkOb P w0 T (.map (some b)) key false H K) ⟨0⟩ := by
  obtain ⟨l, hl⟩ := hk
  refine ⟨e.val, fun w hp => ?_, hK⟩
  have hb : w.heap[b]? = some (.map es c) := hp.ok _ hH
  rcases L.find w hl es.toList hes with ⟨_, h⟩ | ⟨j, e', hr, hj, hk'⟩
  · exact absurd hek (h e he)
  · have : e'.val = e.val := hv e' (List.mem_of_getElem? hj) e he (hk'.trans hek.symm)
    simp [Instr.lookup, run_underlying hm, MapKept.run_getObj_map hb, L.check w _ hl, hr, Result.andThen, this]
theorem ins_W {P : Program} {T kt et : TypeId} {b c : Nat} {es : Array MapEntry} {key x : Value} {H A B : List HO} {K : List HO → Prop} (hm : P.underlying T = some (.map kt et)) (L : KeyLaw P kt) (hk : ∃ l, keyOf P kt key = some l) (hes : KeysOk P kt es) (hn : ∀ e ∈ es.toList, e.key ≠ key)
    (hH : H = A ++ .obj b (.map es c) :: B) (hK : K (A ++ .obj b (.map (es.push { key := key, val := x, born := c }) (c + 1)) :: B)) : hold (InsOb P T (.map (some b)) key x H K) ⟨0⟩ := by
  obtain ⟨l, hl⟩ := hk
  refine ⟨A, b, es, c, B, _, _, hH, fun w hb => ?_, hK⟩
  rcases L.find w hl es.toList hes with ⟨hr, _⟩ | ⟨j, e', hr, hj, hk'⟩
  · simp [Instr.mapUpdate, run_underlying hm, MapKept.run_getObj_map hb, L.check w _ hl, hr, MapKept.run_setObj_map _ hb, Result.andThen]
  · exact absurd hk' (hn e' (List.mem_of_getElem? hj))
end Go.SX

