/- A part of a proof: the symbolic walk and what it shows of single functions. -/
import Derived.Test.YtpfbpelkodlljaaSxV15
set_option linter.all false
namespace Go.Proofs.Ytpfbpelkodlljaa
open Go.RowKit Go.SX
set_option maxRecDepth 4000
set_option linter.unusedSimpArgs false
set_option linter.unusedVariables false

/-! ### Orders: plain -/

def dhAt (us : List Tw) (k : Nat) : Int := match us[k]? with
  | some u => u.dh
  | none => 0

/-- The drag of the units of a set that are among the first k. -/
def dragK (us : List Tw) (S : Nat) : Nat → Int
  | 0 => 0
  | k + 1 => if S.testBit k then dragK us S k + dhAt us k else dragK us S k

theorem dhAt_bd {us : List Tw} (h : okT us) (k : Nat) : 0 ≤ dhAt us k ∧ dhAt us k ≤ 100 := by
  unfold dhAt
  split
  · rename_i u hu
    have := h.2.2 u (List.mem_of_getElem? hu)
    unfold Tw.ok at this
    omega
  · omega

theorem dragK_bd {us : List Tw} (h : okT us) (S : Nat) : ∀ k, 0 ≤ dragK us S k ∧ dragK us S k ≤ 100 * k
  | 0 => by simp [dragK]
  | k + 1 => by
    have ih := dragK_bd h S k
    have hd := dhAt_bd h k
    unfold dragK
    split <;> omega

def dragS (us : List Tw) (S : Nat) : Int := dragK us S us.length

theorem dragS_bd {us : List Tw} (h : okT us) (S : Nat) : 0 ≤ dragS us S ∧ dragS us S ≤ 800 := by
  have := dragK_bd h S us.length
  have := h.2.1
  unfold dragS
  omega

theorem bit_subT {S i j : Nat} (hS : S < 256) (hi : i < 8) (hj : j < 8) (h : S.testBit i = true) : (S - 2 ^ i).testBit j = (S.testBit j && j != i) :=
  (bit_sub ⟨S, hS⟩ ⟨i, hi⟩ h).2 ⟨j, hj⟩

theorem bit_subL {S i : Nat} (hS : S < 256) (hi : i < 8) (h : S.testBit i = true) : 2 ^ i ≤ S ∧ S - 2 ^ i < S := by
  have h1 : 2 ^ i ≤ S := (bit_sub ⟨S, hS⟩ ⟨i, hi⟩ h).1
  have : 0 < 2 ^ i := Nat.two_pow_pos i
  omega

theorem dragK_sub {us : List Tw} {S i : Nat} (hS : S < 256) (hi : i < 8) (h : S.testBit i = true) : ∀ k, k ≤ 8 → dragK us S k = dragK us (S - 2 ^ i) k + (if i < k then dhAt us i else 0)
  | 0, _ => by simp [dragK]
  | k + 1, hk => by
    have ih := dragK_sub (us := us) hS hi h k (by omega)
    unfold dragK
    rw [bit_subT hS hi (by omega) h]
    by_cases e : k = i
    · subst e
      simp [h] at ih ⊢
      omega
    · have e1 : (k != i) = true := by simp [e]
      rw [e1, Bool.and_true]
      have e2 : (i < k + 1) = (i < k) := by apply propext; omega
      simp only [e2]
      split <;> omega

theorem dragS_sub {us : List Tw} (hok : okT us) {S i : Nat} (hS : S < 256) (hi : i < 8) (h : S.testBit i = true) : dragS us S = dhAt us i + dragS us (S - 2 ^ i) := by
  have := dragK_sub (us := us) hS hi h us.length hok.2.1
  unfold dragS
  rw [this]
  by_cases e : i < us.length
  · rw [if_pos e]; omega
  · rw [if_neg e]
    have : dhAt us i = 0 := by unfold dhAt; rw [List.getElem?_eq_none (by omega)]
    omega

/-- The lists of the members of a set. -/
inductive Ord : Nat → List Nat → Prop
  | nil : Ord 0 []
  | cons {S i : Nat} {l : List Nat} : S.testBit i = true → Ord (S - 2 ^ i) l → Ord S (i :: l)

theorem bit8 {S i : Nat} (hS : S < 256) (h : S.testBit i = true) : i < 8 := by
  by_cases c : i < 8
  · exact c
  · have := Nat.testBit_lt_two_pow (x := S) (i := i) (Nat.lt_of_lt_of_le hS (by have := Nat.pow_le_pow_right (n := 2) (by omega) (show 8 ≤ i by omega); exact this))
    rw [this] at h
    cases h

/-- The speed of a unit with a drag behind its line. -/
def spI (us : List Tw) (i : Nat) (d : Int) : Nat := match us[i]? with
  | some u => spd u d
  | none => 0

def dsum (us : List Tw) (l : List Nat) : Int := (l.map (dhAt us)).sum

/-- How fast units can be towed in an order. -/
def fv (us : List Tw) : List Nat → Nat
  | [] => 20
  | i :: r => min (spI us i (dsum us (i :: r))) (fv us r)

theorem Ord.dsum {us : List Tw} (hok : okT us) {S : Nat} {l : List Nat} (h : Ord S l) (hS : S < 256) : dsum us l = dragS us S := by
  induction h with
  | nil =>
    have : ∀ k, dragK us 0 k = 0 := fun k => by
      induction k with
      | zero => rfl
      | succ k ih => simp [dragK, ih]
    simp [Go.Proofs.Ytpfbpelkodlljaa.dsum, dragS, this]
  | cons hb ho ih =>
    have h8 := bit8 hS hb
    have := ih (by have := bit_subL hS h8 hb; omega)
    rw [dragS_sub hok hS h8 hb, ← this]
    simp [Go.Proofs.Ytpfbpelkodlljaa.dsum]

/-- How fast a set can be towed with a unit first, if the rest can be towed as fast as T says. -/
def wv (us : List Tw) (T : Nat → Int) (S i : Nat) : Int := min (spI us i (dragS us S) : Int) (T (S - 2 ^ i))

/-- The greatest speed of a set. -/
def isMax (us : List Tw) (S : Nat) (m : Int) : Prop := (∃ l, Ord S l ∧ (fv us l : Int) = m) ∧ ∀ l, Ord S l → (fv us l : Int) ≤ m

theorem max0 (us : List Tw) : isMax us 0 20 := by
  refine ⟨⟨[], .nil, rfl⟩, fun l h => ?_⟩
  cases h with
  | nil => exact Int.le_refl _
  | cons hb _ => simp at hb

theorem some_bit : ∀ S : Fin 256, ∀ n : Fin 9, S.val ≠ 0 → S.val < 2 ^ n.val → ∃ i : Fin 8, i.val < n.val ∧ S.val.testBit i.val = true := by
  decide +kernel

theorem max_step {us : List Tw} (hok : okT us) {S : Nat} {T : Nat → Int} {m : Int} (hS : S < 2 ^ us.length) (h0 : S ≠ 0) (hT : ∀ S', S' < S → isMax us S' (T S'))
    (h1 : ∀ i, i < us.length → S.testBit i = true → wv us T S i ≤ m) (h2 : m = 0 ∨ ∃ i, i < us.length ∧ S.testBit i = true ∧ m = wv us T S i) : isMax us S m := by
  have h256 : S < 256 := Nat.lt_of_lt_of_le hS (by have := Nat.pow_le_pow_right (n := 2) (by omega) hok.2.1; exact this)
  have hlt : ∀ i, S.testBit i = true → i < us.length := fun i hb => bit_lt ⟨S, h256⟩ ⟨i, bit8 h256 hb⟩ ⟨us.length, by have := hok.2.1; omega⟩ hS hb
  have hex : ∀ i, S.testBit i = true → ∃ l, Ord S l ∧ (fv us l : Int) = wv us T S i := fun i hb => by
    have h8 := bit8 h256 hb
    have hl := bit_subL h256 h8 hb
    obtain ⟨⟨l, hl1, hl2⟩, _⟩ := hT _ hl.2
    refine ⟨i :: l, .cons hb hl1, ?_⟩
    rw [fv, (Ord.cons hb hl1).dsum hok h256, wv, ← hl2]
    omega
  refine ⟨?_, fun l hl => ?_⟩
  · rcases h2 with rfl | ⟨i, _, hb, rfl⟩
    · obtain ⟨i, hi, hb⟩ := some_bit ⟨S, h256⟩ ⟨us.length, by have := hok.2.1; omega⟩ h0 hS
      obtain ⟨l, hl1, hl2⟩ := hex i.val hb
      have := h1 i.val hi hb
      exact ⟨l, hl1, by omega⟩
    · exact hex i hb
  · cases hl with
    | nil => exact absurd rfl h0
    | @cons _ i r hb ho =>
      have h8 := bit8 h256 hb
      have hl := bit_subL h256 h8 hb
      have h3 := (hT _ hl.2).2 r ho
      have h4 := h1 i (hlt i hb) hb
      rw [fv, (Ord.cons hb ho).dsum hok h256]
      unfold wv at h4
      omega

/-- The order of the dictionary. -/
def lexLe : List Nat → List Nat → Prop
  | [], _ => True
  | _ :: _, [] => False
  | a :: l, b :: m => a < b ∨ (a = b ∧ lexLe l m)

theorem lex_anti : ∀ {l m : List Nat}, lexLe l m → lexLe m l → l = m
  | [], [], _, _ => rfl
  | [], _ :: _, _, h => by simp [lexLe] at h
  | _ :: _, [], h, _ => by simp [lexLe] at h
  | a :: l, b :: m, h, k => by
    simp only [lexLe] at h k
    rcases h with h | ⟨h1, h2⟩ <;> rcases k with k | ⟨k1, k2⟩
    · omega
    · omega
    · omega
    · subst h1
      rw [lex_anti h2 k2]

def isBest (us : List Tw) (S : Nat) (l : List Nat) : Prop := Ord S l ∧ (∀ l', Ord S l' → fv us l' ≤ fv us l) ∧ ∀ l', Ord S l' → fv us l ≤ fv us l' → lexLe l l'

theorem best_uniq {us : List Tw} {S : Nat} {l m : List Nat} (h : isBest us S l) (k : isBest us S m) : l = m :=
  lex_anti (h.2.2 m k.1 (k.2.1 l h.1)) (k.2.2 l h.1 (h.2.1 m k.1))

/-- What the greedy choice gives. -/
inductive Gr (us : List Tw) (T : Nat → Int) (t : Int) : Nat → List Nat → Prop
  | nil : Gr us T t 0 []
  | cons {S i : Nat} {l : List Nat} : S.testBit i = true → t ≤ wv us T S i → (∀ j, j < i → S.testBit j = true → wv us T S j < t) → Gr us T t (S - 2 ^ i) l → Gr us T t S (i :: l)

theorem Gr.best {us : List Tw} (hok : okT us) {T : Nat → Int} {t : Int} {S : Nat} {l : List Nat} (h : Gr us T t S l) (ht : t ≤ 20) (hS : S < 256) (hT : ∀ S', S' ≤ S → isMax us S' (T S')) :
    Ord S l ∧ t ≤ fv us l ∧ ∀ l', Ord S l' → t ≤ fv us l' → lexLe l l' := by
  induction h with
  | nil => exact ⟨.nil, by simp [fv]; omega, fun l' _ _ => trivial⟩
  | @cons S i l hb hw hj hg ih =>
    have h8 := bit8 hS hb
    have hl := bit_subL hS h8 hb
    obtain ⟨i1, i2, i3⟩ := ih (by omega) fun S' h' => hT S' (by omega)
    have ho := Ord.cons hb i1
    refine ⟨ho, ?_, fun l' hl' hf => ?_⟩
    · rw [fv, ho.dsum hok hS]
      unfold wv at hw
      omega
    · cases hl' with
      | nil => simp at hb
      | @cons _ j r hb' ho' =>
        have h8' := bit8 hS hb'
        have hl' := bit_subL hS h8' hb'
        rw [fv, (Ord.cons hb' ho').dsum hok hS] at hf
        have hm := (hT _ (Nat.le_of_lt hl'.2)).2 r ho'
        have hwj : t ≤ wv us T S j := by unfold wv; omega
        simp only [lexLe]
        by_cases h1 : i < j
        · exact .inl h1
        · by_cases h2 : j < i
          · have := hj j h2 hb'; omega
          · have : i = j := by omega
            subst this
            exact .inr ⟨rfl, i3 r ho' (by omega)⟩

theorem Gr.isBest {us : List Tw} (hok : okT us) {T : Nat → Int} {S : Nat} {l : List Nat} (h : Gr us T (T S) S l) (hS : S < 256) (hT : ∀ S', S' ≤ S → isMax us S' (T S')) : isBest us S l := by
  obtain ⟨⟨l0, h0, h1⟩, hm⟩ := hT S (Nat.le_refl _)
  have h20 : ∀ l, fv us l ≤ 20 := fun l => by
    induction l with
    | nil => simp [fv]
    | cons i l ih => rw [fv]; omega
  have := h20 l0
  obtain ⟨a, b, c⟩ := h.best hok (by omega) hS hT
  refine ⟨a, fun l' hl' => ?_, fun l' hl' hf => c l' hl' (by omega)⟩
  have := hm l' hl'
  omega

/-- Sets that some units have been taken from, in an order. -/
inductive Pre (A : Nat) : List Nat → Nat → Prop
  | nil : Pre A [] A
  | snoc {p : List Nat} {S i : Nat} : Pre A p S → S.testBit i = true → Pre A (p ++ [i]) (S - 2 ^ i)

def cnt (S : Nat) : Nat := (List.range 8).countP fun i => S.testBit i

theorem cnt_facts : ∀ S : Fin 256, (cnt S.val = 0 ↔ S.val = 0) ∧ ∀ i : Fin 8, S.val.testBit i.val = true → cnt S.val = cnt (S.val - 2 ^ i.val) + 1 := by
  decide +kernel

theorem cnt_all : ∀ n : Fin 9, cnt (2 ^ n.val - 1) = n.val ∧ ∀ i : Fin 8, (2 ^ n.val - 1).testBit i.val = decide (i.val < n.val) := by
  decide +kernel

theorem Pre.facts {A : Nat} (hA : A < 256) {p : List Nat} {S : Nat} (h : Pre A p S) : S ≤ A ∧ p.length + cnt S = cnt A ∧ (∀ i, i < 8 → (S.testBit i = true ↔ A.testBit i = true ∧ i ∉ p)) ∧ ∀ r, Ord S r → Ord A (p ++ r) := by
  induction h with
  | nil => exact ⟨Nat.le_refl _, by simp, fun i _ => by simp, fun r h => h⟩
  | @snoc p S i hp hb ih =>
    obtain ⟨h1, h2, h3, h4⟩ := ih
    have hS : S < 256 := by omega
    have h8 := bit8 hS hb
    have hl := bit_subL hS h8 hb
    refine ⟨by omega, ?_, fun j hj => ?_, fun r hr => ?_⟩
    · have h5 := (cnt_facts ⟨S, hS⟩).2 ⟨i, h8⟩ hb
      simp only [List.length_append, List.length_cons, List.length_nil] at h5 ⊢
      omega
    · rw [bit_subT hS h8 hj hb, Bool.and_eq_true, h3 j hj]
      simp [and_assoc]
    · have := h4 (i :: r) (.cons hb hr)
      simpa using this

theorem Ord.facts {S : Nat} {l : List Nat} (h : Ord S l) (hS : S < 256) : l.length = cnt S ∧ (∀ i ∈ l, S.testBit i = true) ∧ l.Nodup := by
  induction h with
  | nil => exact ⟨by decide, by simp, by simp⟩
  | @cons S i l hb ho ih =>
    have h8 := bit8 hS hb
    have hl := bit_subL hS h8 hb
    obtain ⟨h1, h2, h3⟩ := ih (by omega)
    have h5 := (cnt_facts ⟨S, hS⟩).2 ⟨i, h8⟩ hb
    have h6 : ∀ j ∈ l, S.testBit j = true ∧ j ≠ i := fun j hj => by
      have a := h2 j hj
      have b := bit8 (by omega) a
      rw [bit_subT hS h8 b hb] at a
      simpa using a
    refine ⟨by simp only [List.length_cons] at h5 ⊢; omega, fun j hj => ?_, List.nodup_cons.2 ⟨fun hm => (h6 i hm).2 rfl, h3⟩⟩
    rcases List.mem_cons.1 hj with rfl | hj
    · exact hb
    · exact (h6 j hj).1

/-! ### The reference's search -/

/-- The best order that begins with p, the units of S behind; the rest of it. -/
def isBestP (us : List Tw) (p : List Nat) (S : Nat) (r : List Nat) : Prop := Ord S r ∧ (∀ r', Ord S r' → fv us (p ++ r') ≤ fv us (p ++ r)) ∧ ∀ r', Ord S r' → fv us (p ++ r) ≤ fv us (p ++ r') → lexLe r r'

/-- The best of those that go on with a unit before k. -/
def bestK (us : List Tw) (p : List Nat) (S k : Nat) (x : Option (List Nat)) : Prop :=
  match x with
  | none => ∀ i, i < k → S.testBit i = false
  | some r => ∃ i l, r = i :: l ∧ i < k ∧ Ord S r ∧ ∀ j l', j < k → Ord S (j :: l') → fv us (p ++ j :: l') ≤ fv us (p ++ r) ∧ (fv us (p ++ r) ≤ fv us (p ++ j :: l') → lexLe r (j :: l'))

theorem bestK_skip {us : List Tw} {p : List Nat} {S k : Nat} {x : Option (List Nat)} (h : bestK us p S k x) (hb : S.testBit k = false) : bestK us p S (k + 1) x := by
  cases x with
  | none =>
    intro i hi
    by_cases e : i = k
    · subst e; exact hb
    · exact h i (by omega)
  | some r =>
    obtain ⟨i, l, rfl, h1, h2, h3⟩ := h
    refine ⟨i, l, rfl, by omega, h2, fun j l' hj ho => ?_⟩
    by_cases e : j = k
    · subst e
      cases ho with
      | cons hb' _ => rw [hb] at hb'; cases hb'
    · exact h3 j l' (by omega) ho

theorem bestK_step {us : List Tw} {p : List Nat} {S k : Nat} {x : Option (List Nat)} {r : List Nat} (h : bestK us p S k x) (hb : S.testBit k = true) (hr : isBestP us (p ++ [k]) (S - 2 ^ k) r) :
    ((match x with | none => True | some y => fv us (p ++ y) < fv us (p ++ k :: r)) → bestK us p S (k + 1) (some (k :: r))) ∧
    ((match x with | none => False | some y => fv us (p ++ k :: r) ≤ fv us (p ++ y)) → bestK us p S (k + 1) x) := by
  obtain ⟨r1, r2, r3⟩ := hr
  simp only [List.append_assoc, List.singleton_append] at r2 r3
  have own : ∀ l', Ord S (k :: l') → Ord (S - 2 ^ k) l' := fun l' ho => by cases ho with | cons _ h => exact h
  refine ⟨fun hx => ⟨k, r, rfl, by omega, .cons hb r1, fun j l' hj ho => ?_⟩, fun hx => ?_⟩
  · by_cases e : j = k
    · subst e
      exact ⟨r2 l' (own l' ho), fun hf => .inr ⟨rfl, r3 l' (own l' ho) hf⟩⟩
    · cases x with
      | none => cases ho with | cons hb' _ => rw [h j (by omega)] at hb'; cases hb'
      | some y =>
        obtain ⟨i, l, rfl, h1, h2, h3⟩ := h
        have := h3 j l' (by omega) ho
        simp only [] at hx
        exact ⟨by omega, fun hf => by omega⟩
  · cases x with
    | none => exact hx.elim
    | some y =>
      obtain ⟨i, l, rfl, h1, h2, h3⟩ := h
      simp only [] at hx
      refine ⟨i, l, rfl, by omega, h2, fun j l' hj ho => ?_⟩
      by_cases e : j = k
      · subst e
        have := r2 l' (own l' ho)
        exact ⟨by omega, fun _ => .inl h1⟩
      · exact h3 j l' (by omega) ho

theorem bestK_end {us : List Tw} {p : List Nat} {S n : Nat} {x : Option (List Nat)} (h : bestK us p S n x) (h0 : S ≠ 0) (hS : S < 256) (hn : ∀ i, S.testBit i = true → i < n) (hn8 : n ≤ 8) (hS2 : S < 2 ^ n) : ∃ r, x = some r ∧ isBestP us p S r := by
  cases x with
  | none =>
    obtain ⟨i, hi, hb⟩ := some_bit ⟨S, hS⟩ ⟨n, by omega⟩ h0 hS2
    have h1 := h i.val hi
    simp only [] at hb
    rw [h1] at hb
    cases hb
  | some r =>
    obtain ⟨i, l, rfl, h1, h2, h3⟩ := h
    have : ∀ r', Ord S r' → ∃ j l', r' = j :: l' ∧ j < n := fun r' ho => by
      cases ho with
      | nil => exact absurd rfl h0
      | @cons _ j l' hb _ => exact ⟨j, l', rfl, hn j hb⟩
    refine ⟨_, rfl, h2, fun r' ho => ?_, fun r' ho hf => ?_⟩
    · obtain ⟨j, l', rfl, hj⟩ := this r' ho
      exact (h3 j l' hj ho).1
    · obtain ⟨j, l', rfl, hj⟩ := this r' ho
      exact (h3 j l' hj ho).2 hf

/-! ### A train in an order -/

def orderT (us : List Tw) (o : List Nat) : List Tw := o.filterMap (us[·]?)

theorem spd_mono {u : Tw} (hu : u.ok) {h : Int} (hh : 0 ≤ h ∧ h ≤ 800) (v : Nat) (h1 : 1 ≤ v) (h2 : v ≤ 20) : v ≤ spd u h ↔ (v : Int) * v * h ≤ u.str := spd_iff hu hh h1 h2

/-- All lines hold, from the speeds of the lines. -/
theorem fv_spdAt {us : List Tw} (hok : okT us) : ∀ (o : List Nat), (∀ i ∈ o, i < us.length) → ∀ v : Nat, v ≤ 20 → (v ≤ fv us o ↔ ∀ j, j < (orderT us o).length → v ≤ spdAt (orderT us o) j)
  | [], _, v, hv => by simp [fv, orderT]; omega
  | i :: o, hi, v, hv => by
    have hil := hi i List.mem_cons_self
    have e : orderT us (i :: o) = us[i] :: orderT us o := by
      unfold orderT
      rw [List.filterMap_cons, List.getElem?_eq_getElem hil]
    have ih := fv_spdAt hok o (fun j hj => hi j (List.mem_cons_of_mem _ hj)) v hv
    have hsum : ∀ o : List Nat, (∀ i ∈ o, i < us.length) → dsum us o = ((orderT us o).map Tw.dh).sum := fun o ho => by
      induction o with
      | nil => rfl
      | cons j o ih =>
        have hjl := ho j List.mem_cons_self
        have e : orderT us (j :: o) = us[j] :: orderT us o := by
          unfold orderT
          rw [List.filterMap_cons, List.getElem?_eq_getElem hjl]
        have e2 : dhAt us j = us[j].dh := by unfold dhAt; rw [List.getElem?_eq_getElem hjl]
        have := ih (fun k hk => ho k (List.mem_cons_of_mem _ hk)) 
        simp only [dsum, List.map_cons, List.sum_cons] at this ⊢
        rw [e, List.map_cons, List.sum_cons, ← this, e2]
    have h0 : spdAt (us[i] :: orderT us o) 0 = spI us i (dsum us (i :: o)) := by
      unfold spdAt spI
      rw [List.getElem?_eq_getElem hil, hsum _ hi, e]
      simp [hiS]
    have hs : ∀ j, spdAt (us[i] :: orderT us o) (j + 1) = spdAt (orderT us o) j := fun j => by
      unfold spdAt
      simp [hiS]
    rw [fv, e, Nat.le_min, ih, ← h0]
    constructor
    · rintro ⟨a, b⟩ j hj
      cases j with
      | zero => exact a
      | succ j =>
        rw [hs]
        exact b j (by simpa using hj)
    · intro h
      refine ⟨h 0 (by simp), fun j hj => ?_⟩
      have := h (j + 1) (by simpa using hj)
      rwa [hs] at this

end Go.Proofs.Ytpfbpelkodlljaa
