/- Single cells of elements: read and written through two fields. -/
import Derived.Test.YtpfbpelkodlljaaSxR2
set_option linter.all false
namespace Go.SX
open Go.RowKit

theorem cat_set_cell {α : Type} {f : α → List Value} {n o : Nat} (h : ∀ a, (f a).length = n) {x : Value} {u u' : α} (hu' : f u' = (f u).set o x) (ho : o < n) : ∀ {l : List α} {k : Nat}, l[k]? = some u → (cat f l).set (k * n + o) x = cat f (l.set k u')
  | [], k, hu => by simp at hu
  | y :: r, 0, hu => by
    simp only [List.getElem?_cons_zero, Option.some.injEq] at hu
    subst hu
    rw [cat_cons, Nat.zero_mul, Nat.zero_add, List.set_append_left _ _ (by rw [h]; exact ho), List.set_cons_zero, cat_cons, hu']
  | y :: r, k + 1, hu => by
    simp only [List.getElem?_cons_succ] at hu
    have e : (k + 1) * n + o = (f y).length + (k * n + o) := by rw [h, Nat.add_mul]; omega
    rw [cat_cons, e, List.set_append_right _ _ (by omega), Nat.add_sub_cancel_left, List.set_cons_succ, cat_cons, cat_set_cell h hu' ho hu]

theorem set_parts {α : Type} {l : List α} {p : Nat} {x : α} (h : p < l.length) : l.take p ++ [x] ++ l.drop (p + 1) = l.set p x := by
  rw [List.set_eq_take_append_cons_drop, if_pos h]
  simp

/-- One cell of an element, through two fields, is written. -/
theorem wr_f2 {α : Type} {H A B : List HO} {ad : Addr} {len cap e n k o1 o2 : Nat} {f : α → List Value} {l : List α} {u : α} (u' : α) {x : Value} {K : List HO → Prop} (hH : H = A ++ .row (.slice (some ad) len cap) e n (cat f l) :: B) (hf : ∀ a, (f a).length = n) (hl : l.length = len) (hu : l[k]? = some u)
    (hu' : f u' = (f u).set (o1 + o2) x) (ho : o1 + o2 < n) (hK : K (A ++ .row (.slice (some ad) len cap) e n (cat f (l.set k u')) :: B)) : hold (WrOb H (((ad.add (k * n)).add o1).add o2) [x] K) ⟨0⟩ := by
  have hk : k < l.length := (List.getElem?_eq_some_iff.1 hu).1
  have hb : (k + 1) * n ≤ l.length * n := Nat.mul_le_mul_right _ hk
  rw [Nat.add_mul] at hb
  have := wr_row (o := k * n + (o1 + o2)) (vs := [x]) (K := K) hH (by rw [← hl]; simp only [List.length_cons, List.length_nil]; omega) (by
    simp only [List.length_cons, List.length_nil]
    rw [set_parts (by rw [cat_len hf]; omega), cat_set_cell hf hu' ho hu]
    exact hK)
  change WrOb H (((ad.add (k * n)).add o1).add o2) [x] K
  rw [add_add, add_add]
  exact this

/-- One cell of an element, through two fields, is read. -/
theorem at_f2 {α : Type} {w0 : Base} {H : List HO} {a : Option Addr} {len cap n : Nat} {f : α → List Value} {l : List α} {k o1 o2 : Nat} {u : α} {x : Value} {K : Addr → SV → Prop} (h : Rdv w0 H (.slice a len cap) n (cat f l)) (hf : ∀ a, (f a).length = n)
    (hu : l[k]? = some u) (hx : (f u)[o1 + o2]? = some x) (hK : ∀ ad, K ad (.v x)) : 0 ≤ (k : Int) ∧ (k : Int) < (len : Int) ∧ ∃ ad, a = some ad ∧ hold (LdOb w0 H (((ad.add (k * n)).add o1).add o2) none (K ad)) ⟨0⟩ := by
  obtain ⟨h1, h2, ad, e, h3⟩ := at_f (K := fun ad s => K ad s) (o := o1 + o2) h hf hu hx hK
  refine ⟨h1, h2, ad, e, ?_⟩
  change LdOb w0 H ((ad.add (k * n)).add (o1 + o2)) none _ at h3
  change LdOb w0 H (((ad.add (k * n)).add o1).add o2) none _
  rw [add_add]
  exact h3

end Go.SX
