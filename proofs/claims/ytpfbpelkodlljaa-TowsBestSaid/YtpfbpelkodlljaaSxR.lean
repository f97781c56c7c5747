/- Lists in memory: elements of a fixed number of cells, read one by one. -/
import Derived.Test.YtpfbpelkodlljaaSxQ
set_option linter.all false
namespace Go.SX
open Go.RowKit

/-- The cells of a list. -/
def cat {α : Type} (f : α → List Value) (l : List α) : List Value := l.flatMap f

theorem cat_len {α : Type} {f : α → List Value} {n : Nat} (h : ∀ a, (f a).length = n) (l : List α) : (cat f l).length = l.length * n := by
  induction l with
  | nil => simp [cat]
  | cons u us ih =>
    rw [cat] at ih
    rw [cat, List.flatMap_cons, List.length_append, ih, h, List.length_cons, Nat.add_mul]
    omega

theorem cat_append {α : Type} (f : α → List Value) (l m : List α) : cat f (l ++ m) = cat f l ++ cat f m := List.flatMap_append
theorem cat_nil {α : Type} (f : α → List Value) : cat f ([] : List α) = [] := rfl
theorem cat_cons {α : Type} (f : α → List Value) (u : α) (l : List α) : cat f (u :: l) = f u ++ cat f l := List.flatMap_cons
theorem cat_one {α : Type} (f : α → List Value) (u : α) : cat f [u] = f u := by simp [cat]

theorem cat_get {α : Type} {f : α → List Value} {n : Nat} (h : ∀ a, (f a).length = n) {l : List α} {i : Nat} {u : α} (hu : l[i]? = some u) {j : Nat} (hj : j < n) : (cat f l)[i * n + j]? = (f u)[j]? := by
  induction l generalizing i with
  | nil => simp at hu
  | cons x us ih =>
    rw [cat_cons]
    cases i with
    | zero =>
      simp only [List.getElem?_cons_zero, Option.some.injEq] at hu
      subst hu
      rw [List.getElem?_append_left (by rw [h]; omega)]
      simp
    | succ i =>
      simp only [List.getElem?_cons_succ] at hu
      have e : (i + 1) * n + j = (f x).length + (i * n + j) := by rw [h, Nat.add_mul]; omega
      rw [e, List.getElem?_append_right (by omega)]
      rw [show (f x).length + (i * n + j) - (f x).length = i * n + j by omega]
      exact ih hu

theorem cat_take {α : Type} {f : α → List Value} {n : Nat} (h : ∀ a, (f a).length = n) (l : List α) (k : Nat) : (cat f l).take (k * n) = cat f (l.take k) := by
  induction l generalizing k with
  | nil => simp [cat]
  | cons x us ih =>
    cases k with
    | zero => simp [cat]
    | succ k =>
      rw [List.take_succ_cons, cat_cons, cat_cons, show (k + 1) * n = (f x).length + k * n by rw [h, Nat.add_mul]; omega, List.take_length_add_append, ih]

theorem cat_drop {α : Type} {f : α → List Value} {n : Nat} (h : ∀ a, (f a).length = n) (l : List α) (k : Nat) : (cat f l).drop (k * n) = cat f (l.drop k) := by
  induction l generalizing k with
  | nil => simp [cat]
  | cons x us ih =>
    cases k with
    | zero => simp
    | succ k =>
      rw [List.drop_succ_cons, cat_cons, show (k + 1) * n = (f x).length + k * n by rw [h, Nat.add_mul]; omega, List.drop_length_add_append, ih]

/-- An element is written anew. -/
theorem cat_set {α : Type} {f : α → List Value} {n : Nat} (h : ∀ a, (f a).length = n) (l : List α) (k : Nat) (u : α) (hk : k < l.length) : (cat f l).take (k * n) ++ f u ++ (cat f l).drop (k * n + (f u).length) = cat f (l.set k u) := by
  rw [cat_take h, h, show k * n + n = (k + 1) * n by rw [Nat.add_mul]; omega, cat_drop h, List.set_eq_take_append_cons_drop, if_pos hk, cat_append, cat_cons]
  simp

/-- Whole numbers, in a cell each. -/
def i1 (n : Int) : List Value := [.int .i64 n]
abbrev ints (l : List Int) : List Value := cat i1 l
theorem i1_len (n : Int) : (i1 n).length = 1 := rfl
def b1 (t : Bool) : List Value := [.bool t]
abbrev bools (l : List Bool) : List Value := cat b1 l
theorem b1_len (t : Bool) : (b1 t).length = 1 := rfl

/-- A slice that can be read in the walk. -/
def Rdv (w0 : Base) (H : List HO) (v : Value) (sz : Nat) (xs : List Value) : Prop :=
  ∃ a len cap, v = .slice a len cap ∧ xs.length = len * sz ∧ ∀ i x, xs[i]? = some x → ∃ ad, a = some ad ∧ Rd w0 H (ad.add i) x

theorem own_of {ad : Addr} {len cap : Nat} (i : Nat) : (Value.slice (some ad) len cap).ownBlock = some (ad.add i).block := by
  have : (ad.add i).block = ad.block := by unfold Addr.add; split <;> rfl
  rw [this]
  rfl

theorem Sl.rdv {w : World} {X : Nat → Prop} {v : Value} {sz : Nat} {xs : List Value} (h : Sl w v sz xs) (hX : ∀ b, v.ownBlock = some b → ¬ X b) (H : List HO) : Rdv ⟨w, X⟩ H v sz xs := by
  obtain ⟨a, len, cap, rfl, hl, hc⟩ := h
  refine ⟨a, len, cap, rfl, hl, fun i x hx => ?_⟩
  obtain ⟨ad, ha, hc'⟩ := hc i x hx
  subst ha
  exact ⟨ad, rfl, .inl ⟨hc', hX _ (own_of i)⟩⟩

/-- Of old memory, where the walk writes nothing old. -/
theorem Sl.rd0 {w : World} {v : Value} {sz : Nat} {xs : List Value} (h : Sl w v sz xs) (H : List HO) : Rdv ⟨w, fun _ => False⟩ H v sz xs := h.rdv (fun _ _ => id) H

theorem row_rdv {w0 : Base} {H : List HO} {v : Value} {E : TypeId} {sz : Nat} {xs : List Value} (h : HO.row v E sz xs ∈ H) (hl : ∃ a len cap, v = .slice a len cap ∧ xs.length = len * sz ∧ (a = none → xs = [])) : Rdv w0 H v sz xs := by
  obtain ⟨a, len, cap, rfl, hl, hn⟩ := hl
  refine ⟨a, len, cap, rfl, hl, fun i x hx => ?_⟩
  cases a with
  | none =>
    rw [hn rfl] at hx
    simp at hx
  | some ad => exact ⟨ad, rfl, row_rd h hx⟩

/-- The k-th element is read whole. -/
theorem at_n {α : Type} {w0 : Base} {H : List HO} {a : Option Addr} {len cap n : Nat} {f : α → List Value} {l : List α} {k : Nat} {u : α} {K : Addr → SV → Prop} (h : Rdv w0 H (.slice a len cap) n (cat f l)) (hf : ∀ a, (f a).length = n) (hn : 0 < n)
    (hu : l[k]? = some u) (hK : ∀ ad, K ad (.v (.agg (f u).toArray))) : 0 ≤ (k : Int) ∧ (k : Int) < (len : Int) ∧ ∃ ad, a = some ad ∧ hold (LdOb w0 H (ad.add (k * n)) (some n) (K ad)) ⟨0⟩ := by
  obtain ⟨a', len', cap', e, hl, hc⟩ := h
  cases e
  have hk : k < l.length := (List.getElem?_eq_some_iff.1 hu).1
  rw [cat_len hf] at hl
  have hln := Nat.eq_of_mul_eq_mul_right hn hl
  obtain ⟨ad, rfl, _⟩ := hc (k * n + 0) ((f u)[0]'(by rw [hf]; exact hn)) ((cat_get hf hu hn).trans (List.getElem?_eq_getElem _))
  refine ⟨by omega, by omega, ad, rfl, f u, hf u, fun j v hj => ?_, hK ad⟩
  obtain ⟨ad', e, hr⟩ := hc (k * n + j) v (by rw [cat_get hf hu (by have := (List.getElem?_eq_some_iff.1 hj).1; rw [hf] at this; exact this)]; exact hj)
  cases e
  rw [add_add]
  exact hr

/-- One cell of the k-th element is read. -/
theorem at_f {α : Type} {w0 : Base} {H : List HO} {a : Option Addr} {len cap n : Nat} {f : α → List Value} {l : List α} {k o : Nat} {u : α} {x : Value} {K : Addr → SV → Prop} (h : Rdv w0 H (.slice a len cap) n (cat f l)) (hf : ∀ a, (f a).length = n)
    (hu : l[k]? = some u) (hx : (f u)[o]? = some x) (hK : ∀ ad, K ad (.v x)) : 0 ≤ (k : Int) ∧ (k : Int) < (len : Int) ∧ ∃ ad, a = some ad ∧ hold (LdOb w0 H ((ad.add (k * n)).add o) none (K ad)) ⟨0⟩ := by
  obtain ⟨a', len', cap', e, hl, hc⟩ := h
  cases e
  have hk : k < l.length := (List.getElem?_eq_some_iff.1 hu).1
  have ho : o < n := by have := (List.getElem?_eq_some_iff.1 hx).1; rw [hf] at this; exact this
  rw [cat_len hf] at hl
  have hln := Nat.eq_of_mul_eq_mul_right (by omega) hl
  obtain ⟨ad, rfl, hr⟩ := hc (k * n + o) x (by rw [cat_get hf hu ho]; exact hx)
  refine ⟨by omega, by omega, ad, rfl, x, ?_, hK ad⟩
  rw [add_add]
  exact hr

/-- Some cells of the k-th element are read. -/
theorem at_p {α : Type} {w0 : Base} {H : List HO} {a : Option Addr} {len cap n : Nat} {f : α → List Value} {l : List α} {k o m : Nat} {u : α} {K : Addr → SV → Prop} (vs : List Value) (h : Rdv w0 H (.slice a len cap) n (cat f l)) (hf : ∀ a, (f a).length = n)
    (hu : l[k]? = some u) (hv : ((f u).drop o).take m = vs) (hl : vs.length = m) (hm : 0 < m) (hK : ∀ ad, K ad (.v (.agg vs.toArray))) : 0 ≤ (k : Int) ∧ (k : Int) < (len : Int) ∧ ∃ ad, a = some ad ∧ hold (LdOb w0 H ((ad.add (k * n)).add o) (some m) (K ad)) ⟨0⟩ := by
  have key : ∀ j v, vs[j]? = some v → (f u)[o + j]? = some v ∧ o + j < n := fun j v hj => by
    subst hv
    rw [List.getElem?_take] at hj
    split at hj
    · rw [List.getElem?_drop] at hj
      exact ⟨hj, by have := (List.getElem?_eq_some_iff.1 hj).1; rw [hf] at this; exact this⟩
    · cases hj
  have hv0 : vs[0]? = some vs[0] := List.getElem?_eq_getElem (by omega)
  obtain ⟨h1, h2, ad, e, _⟩ := at_f (K := fun _ _ => True) h hf hu (key 0 _ hv0).1 fun _ => trivial
  refine ⟨h1, h2, ad, e, vs, hl, fun j v hj => ?_, hK ad⟩
  obtain ⟨a', len', cap', e', _, hc⟩ := h
  cases e'
  obtain ⟨ad', e', hr⟩ := hc (k * n + (o + j)) v (by rw [cat_get hf hu (key j v hj).2]; exact (key j v hj).1)
  rw [e] at e'
  cases e'
  rw [add_add, add_add]
  exact hr

/-- The k-th of a list of one-cell elements is read. -/
theorem at_1 {α : Type} {w0 : Base} {H : List HO} {a : Option Addr} {len cap : Nat} {f : α → List Value} {l : List α} {k : Nat} {u : α} {x : Value} {K : Addr → SV → Prop} (h : Rdv w0 H (.slice a len cap) 1 (cat f l)) (hf : ∀ a, (f a).length = 1)
    (hu : l[k]? = some u) (hx : f u = [x]) (hK : ∀ ad, K ad (.v x)) : 0 ≤ (k : Int) ∧ (k : Int) < (len : Int) ∧ ∃ ad, a = some ad ∧ hold (LdOb w0 H (ad.add (k * 1)) none (K ad)) ⟨0⟩ := by
  obtain ⟨h1, h2, ad, e, h3⟩ := at_f (K := fun ad s => K ad s) (o := 0) h hf hu (by rw [hx]; rfl) hK
  refine ⟨h1, h2, ad, e, ?_⟩
  change LdOb w0 H ((ad.add (k * 1)).add 0) none _ at h3
  rw [add_add, Nat.add_zero] at h3
  exact h3

theorem Sl.le {w : World} {a : Option Addr} {len cap n : Nat} {α : Type} {f : α → List Value} {l : List α} (h : Sl w (.slice a len cap) n (cat f l)) (hf : ∀ a, (f a).length = n) (hn : 0 < n) : l.length = len := by
  have := h.len
  rw [cat_len hf] at this
  exact Nat.eq_of_mul_eq_mul_right hn this

theorem Sl.shape {w : World} {v : Value} {sz : Nat} {xs : List Value} (h : Sl w v sz xs) : ∃ a len cap, v = .slice a len cap := by
  obtain ⟨a, len, cap, rfl, _⟩ := h
  exact ⟨a, len, cap, rfl⟩

/-! ### Facts in other words -/

theorem HImp.nilRow (w0 : Base) (H : List HO) (e sz : Nat) : HImp w0 H (.row (.slice none 0 0) e sz [] :: H) := fun w hw => by
  have none_fp : ∀ b, ¬ (HO.row (.slice none 0 0) e sz []).fp b := fun b hb => by cases hb
  refine ⟨⟨hw.ext, fun h hh => ?_, fun h hh b hb => ?_, List.pairwise_cons.2 ⟨fun h _ b hb => (none_fp b hb).elim, hw.nd⟩⟩, fun b ⟨h, hh, hb⟩ => ?_, fun b ⟨h, hh, hb⟩ => ?_⟩
  · rcases List.mem_cons.1 hh with rfl | hh
    · exact .inl ⟨rfl, rfl⟩
    · exact hw.ok h hh
  · rcases List.mem_cons.1 hh with rfl | hh
    · exact (none_fp b (HO.fp_of_fpx hb)).elim
    · exact hw.old h hh b hb
  · rcases List.mem_cons.1 hh with rfl | hh
    · exact (none_fp b hb).elim
    · exact ⟨h, hh, hb⟩
  · rcases List.mem_cons.1 hh with rfl | hh
    · exact (none_fp b (HO.fp_of_fpx hb)).elim
    · exact ⟨h, hh, hb⟩

theorem HImp.tail (w0 : Base) (h : HO) (H : List HO) : HImp w0 (h :: H) H := HImp.sub (List.sublist_cons_self _ _)
theorem HImp.tail2 (w0 : Base) (h h' : HO) (H : List HO) : HImp w0 (h :: h' :: H) (h :: H) := HImp.sub ((List.sublist_cons_self _ _).cons_cons _)
theorem HImp.swap (w0 : Base) (h h' : HO) (H : List HO) : HImp w0 (h :: h' :: H) (h' :: h :: H) := HImp.perm (List.Perm.swap _ _ _)

/-! ### append -/

/-- A list is put behind a list that is owned. -/
theorem app_at {α : Type} {w0 : Base} {e sz bytes : Nat} {z : List Value} {s x : Value} {H A : List HO} {K : Value → List HO → Prop} {f : α → List Value} {l m : List α} (hi : HImp w0 H (.row s e sz (cat f l) :: A)) (hf : ∀ a, (f a).length = sz) (h1 : ∀ a, ∀ y ∈ f a, y.oneCell' = true)
    (hx : ∀ w, Hp w0 H w → Sl w x sz (cat f m)) (hb : (l.length + m.length) * bytes ≤ 140737488355328)
    (hK : ∀ ad c, (ad = none → l = [] ∧ m = []) → K (.slice ad (l.length + m.length) c) (.row (.slice ad (l.length + m.length) c) e sz (cat f (l ++ m)) :: A)) : hold (AppOb w0 (some (e, sz, z, bytes)) s x H K) ⟨0⟩ := by
  refine ⟨l.length, m.length, cat f l, cat f m, A, hi, cat_len hf l, cat_len hf m, hx, fun y hy => ?_, hb, fun ad c h => ?_⟩
  · obtain ⟨a, _, ha⟩ := List.mem_flatMap.1 hy
    exact h1 a y ha
  · rw [← cat_append]
    exact hK ad c fun h0 => ⟨List.eq_nil_of_length_eq_zero (h h0).1, List.eq_nil_of_length_eq_zero (h h0).2⟩

/-- One element, in new memory of its own, is put behind. -/
theorem app_one {α : Type} {w0 : Base} {e sz bytes : Nat} {z : List Value} {s : Value} {b c0 : Nat} {H A : List HO} {K : Value → List HO → Prop} {f : α → List Value} {l : List α} (u : α) (hi : HImp w0 H (.row s e sz (cat f l) :: A)) (hf : ∀ a, (f a).length = sz) (h1 : ∀ a, ∀ y ∈ f a, y.oneCell' = true)
    (hb : (l.length + 1) * bytes ≤ 140737488355328)
    (hK : ∀ ad c, K (.slice (some ad) (l.length + 1) c) (.row (.slice (some ad) (l.length + 1) c) e sz (cat f (l ++ [u])) :: A)) : hold (AppOb w0 (some (e, sz, z, bytes)) s (.slice (some ⟨b, 0, none⟩) 1 c0) (.row (.slice (some ⟨b, 0, none⟩) 1 c0) e sz (f u) :: H) K) ⟨0⟩ := by
  refine app_at (m := [u]) ((HImp.tail _ _ _).trans hi) hf h1 (fun w hw => ?_) hb fun ad c h => ?_
  · rw [cat_one]
    exact row_hp List.mem_cons_self hw
  · cases ad with
    | none => simpa using h rfl
    | some ad => exact hK ad c

theorem i1_one (a : Int) : ∀ y ∈ i1 a, y.oneCell' = true := by simp [i1, Value.oneCell']
theorem b1_one (a : Bool) : ∀ y ∈ b1 a, y.oneCell' = true := by simp [b1, Value.oneCell']

theorem zeros_cat {α : Type} (f : α → List Value) (u : α) (n : Nat) : zerosL n (f u) = cat f (List.replicate n u) := by
  simp [zerosL, cat, List.flatMap, List.map_replicate]

/-! ### What an iterator reads -/

/-- The block of a slice's array, if there is one. -/
def rsl (w : World) (v : Value) (b : Nat) : Prop := v.ownBlock = some b ∧ b < w.heap.size

theorem Sl.keepR {w w' : World} {X : Nat → Prop} {v : Value} {sz : Nat} {xs : List Value} (h : Sl w v sz xs) (hk : Keep X w w') (hX : ∀ b, rsl w v b → ¬ X b) : Sl w' v sz xs := by
  obtain ⟨a, len, cap, rfl, hl, hc⟩ := h
  refine ⟨a, len, cap, rfl, hl, fun i x hx => ?_⟩
  obtain ⟨ad, ha, hcell⟩ := hc i x hx
  subst ha
  refine ⟨ad, rfl, ?_⟩
  have hb := World.block_lt_of_cell? w _ hcell
  rw [World.cell?_of_block (w := w) (hk.block _ hb (hX _ ⟨own_of i, hb⟩))]
  exact hcell

theorem Sl.rdR {w : World} {X : Nat → Prop} {v : Value} {sz : Nat} {xs : List Value} (h : Sl w v sz xs) (hX : ∀ b, rsl w v b → ¬ X b) (H : List HO) : Rdv ⟨w, X⟩ H v sz xs := by
  obtain ⟨a, len, cap, rfl, hl, hc⟩ := h
  refine ⟨a, len, cap, rfl, hl, fun i x hx => ?_⟩
  obtain ⟨ad, ha, hc'⟩ := hc i x hx
  subst ha
  exact ⟨ad, rfl, .inl ⟨hc', hX _ ⟨own_of i, World.block_lt_of_cell? w _ hc'⟩⟩⟩

theorem Sl.hpR {w0 : Base} {H : List HO} {v : Value} {sz : Nat} {xs : List Value} (h : Sl w0.w v sz xs) (hX : ∀ b, rsl w0.w v b → ¬ w0.X b) {w : World} (hp : Hp w0 H w) : Sl w v sz xs := h.keepR hp.ext hX

/-- A box that was there. -/
theorem ld_old {w0 : Base} {H : List HO} {a : Addr} {v : Value} {K : SV → Prop} (h : w0.w.cell? a = some v) (hX : ¬ w0.X a.block) (hK : K (.v v)) : hold (LdOb w0 H a none K) ⟨0⟩ := ⟨v, .inl ⟨h, hX⟩, hK⟩

theorem cells_hp {w0 : Base} {H : List HO} {b : Nat} {T : TypeId} {v : Value} (h : HO.cells b T [v] ∈ H) {w : World} (hp : Hp w0 H w) : w.cell? ⟨b, 0, none⟩ = some v := by
  rw [cell_of_cells (hp.ok _ h)]
  rfl

theorem Iter.mono {P : Program} {gf n : Nat} {pre post : List Value} {arg : Nat → List Value → List HO → Prop} {A Rs Rs' : Nat → Prop} {w : World} (h : Iter P gf pre post n arg A Rs w) (hs : ∀ b, Rs b → Rs' b) : Iter P gf pre post n arg A Rs' w :=
  fun l J C R hH hJ hA hRs => h l J C R hH hJ hA fun b hb => hRs b (hs b hb)

theorem Sl.own_lt {w : World} {v : Value} {sz : Nat} {xs : List Value} (h : Sl w v sz xs) (hne : 0 < xs.length) {b : Nat} (hb : v.ownBlock = some b) : b < w.heap.size := by
  obtain ⟨a, len, cap, rfl, hl, hc⟩ := h
  obtain ⟨ad, ha, hc'⟩ := hc 0 xs[0] (List.getElem?_eq_getElem hne)
  subst ha
  have := own_of (ad := ad) (len := len) (cap := cap) 0
  rw [hb] at this
  cases this
  exact World.block_lt_of_cell? w _ hc'

theorem Sl.rsl {w w' : World} {v : Value} {sz : Nat} {xs : List Value} (h : Sl w v sz xs) (hne : 0 < xs.length) {b : Nat} (hb : SX.rsl w' v b) : SX.rsl w v b := ⟨hb.1, h.own_lt hne hb.1⟩

/-! ### Lists that are handed back -/

/-- A list in new memory, of which the facts tell, or nil. -/
def Got {α : Type} (x : Value) (e sz : Nat) (f : α → List Value) (l : List α) (N : List HO) : Prop :=
  ∃ ad c, x = .slice ad l.length c ∧ (ad = none → l = []) ∧ (x = .slice none 0 0 ∨ HO.row x e sz (cat f l) ∈ N)

theorem Got.nil {α : Type} {e sz : Nat} {f : α → List Value} (N : List HO) : Got (.slice none 0 0) e sz f [] N := ⟨none, 0, rfl, fun _ => rfl, .inl rfl⟩

theorem Got.row {α : Type} {ad : Option Addr} {c e sz n : Nat} {f : α → List Value} {l : List α} {N : List HO} (hn : l.length = n) (h : HO.row (.slice ad n c) e sz (cat f l) ∈ N) (h0 : ad = none → l = []) : Got (.slice ad n c) e sz f l N := by
  subst hn
  exact ⟨ad, c, rfl, h0, .inr h⟩

theorem Sl.nil (w : World) (sz : Nat) : Sl w (.slice none 0 0) sz [] := ⟨none, 0, 0, rfl, by simp, fun i x h => by simp at h⟩

theorem Got.hp {α : Type} {x : Value} {e sz : Nat} {f : α → List Value} {l : List α} {N H : List HO} {w0 : Base} {w : World} (h : Got x e sz f l N) (hm : ∀ h ∈ N, h ∈ H) (hp : Hp w0 H w) : Sl w x sz (cat f l) := by
  obtain ⟨ad, c, rfl, h0, h | h⟩ := h
  · simp only [Value.slice.injEq] at h
    obtain ⟨rfl, _, rfl⟩ := h
    obtain rfl := h0 rfl
    exact Sl.nil w sz
  · exact row_hp (hm _ h) hp

theorem Got.shape {α : Type} {x : Value} {e sz : Nat} {f : α → List Value} {l : List α} {N : List HO} (h : Got x e sz f l N) : ∃ ad c, x = .slice ad l.length c := by
  obtain ⟨ad, c, h, _⟩ := h
  exact ⟨ad, c, h⟩

theorem Got.rdv {α : Type} {x : Value} {e sz : Nat} {f : α → List Value} {l : List α} {N H : List HO} {w0 : Base} (h : Got x e sz f l N) (hf : ∀ a, (f a).length = sz) (hm : ∀ h ∈ N, h ∈ H) : Rdv w0 H x sz (cat f l) := by
  obtain ⟨ad, c, rfl, h0, h | h⟩ := h
  · simp only [Value.slice.injEq] at h
    obtain ⟨rfl, _, rfl⟩ := h
    obtain rfl := h0 rfl
    exact ⟨none, 0, 0, rfl, by simp [cat], fun i x h => by simp [cat] at h⟩
  · exact row_rdv (hm _ h) ⟨ad, _, c, rfl, cat_len hf l, fun h1 => by rw [h0 h1]; rfl⟩

end Go.SX
