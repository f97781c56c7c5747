/- Writing into lists that are owned. -/
import Derived.Test.YtpfbpelkodlljaaSxR
set_option linter.all false
namespace Go.SX
open Go.RowKit

/-! ### Writing into a list that is owned -/

theorem row_write {ad : Addr} {len cap e sz o : Nat} {xs vs : List Value} (ho : o + vs.length ≤ len * sz) :
    WrStep (.row (.slice (some ad) len cap) e sz xs) (ad.add o) vs (.row (.slice (some ad) len cap) e sz (xs.take o ++ vs ++ xs.drop (o + vs.length))) := by
  refine ⟨fun b => ⟨Iff.rfl, Iff.rfl⟩, fun w hk => ?_⟩
  rcases hk with ⟨h, _⟩ | ⟨b, off, len', cap', arr, hv, hb, hl, hlc, hcm, hsz, hx⟩
  · cases h
  · cases hv
    have hm : len * sz ≤ cap * sz := Nat.mul_le_mul_right _ hlc
    refine ⟨b, off + o, arr, e, add_block b off o, rfl, hb, by omega, fun w' hb' _ _ => .inr ⟨b, off, len, cap, _, rfl, hb', ?_, hlc, hcm, ?_, ?_⟩⟩
    · simp only [List.length_append, List.length_take, List.length_drop, hl]
      omega
    · simp only [List.size_toArray, List.length_append, List.length_take, List.length_drop, Array.length_toList]
      omega
    · simp only []
      have hal : arr.toList.length = arr.size := Array.length_toList
      have e1 : arr.toList.take (off + o) = arr.toList.take off ++ (arr.toList.drop off).take o := by
        rw [← List.take_append_drop off (arr.toList.take (off + o)), List.take_take, List.drop_take]
        congr 2 <;> omega
      have e2 : (arr.toList.drop off).take o = xs.take o := by
        rw [← hx, List.take_take]
        congr 1
        omega
      have e3 : arr.toList.drop (off + o + vs.length) = (arr.toList.drop off).drop (o + vs.length) := by rw [List.drop_drop, Nat.add_assoc]
      rw [e1, e2, e3, List.append_assoc, List.append_assoc, List.drop_append_of_le_length (by simp; omega), List.drop_of_length_le (by simp; omega), List.nil_append]
      have hxo : (xs.take o).length = o := by rw [List.length_take, hl]; omega
      rw [← List.append_assoc, List.take_append]
      have hlen : (xs.take o ++ vs).length = o + vs.length := by rw [List.length_append, hxo]
      rw [hlen, List.take_of_length_le (by omega)]
      congr 1
      rw [← hx, List.drop_take]

/-- A fact is said anew by a write. -/
theorem wr_row {H A B : List HO} {ad : Addr} {len cap e sz o : Nat} {xs vs : List Value} {K : List HO → Prop} (hH : H = A ++ .row (.slice (some ad) len cap) e sz xs :: B) (ho : o + vs.length ≤ len * sz)
    (hK : K (A ++ .row (.slice (some ad) len cap) e sz (xs.take o ++ vs ++ xs.drop (o + vs.length)) :: B)) : hold (WrOb H (ad.add o) vs K) ⟨0⟩ :=
  ⟨A, _, B, _, hH, row_write ho, hK⟩

/-- An element of a list that is owned is written whole. -/
theorem wr_at {α : Type} {H A B : List HO} {ad : Addr} {len cap e sz k : Nat} {f : α → List Value} {l : List α} {u : α} {K : List HO → Prop} (hH : H = A ++ .row (.slice (some ad) len cap) e sz (cat f l) :: B) (hf : ∀ a, (f a).length = sz) (hl : l.length = len) (hk : k < l.length)
    (hK : K (A ++ .row (.slice (some ad) len cap) e sz (cat f (l.set k u)) :: B)) : hold (WrOb H (ad.add (k * sz)) (f u) K) ⟨0⟩ := by
  refine wr_row hH ?_ ?_
  · rw [hf, ← hl]
    have : (k + 1) * sz ≤ l.length * sz := Nat.mul_le_mul_right _ hk
    rw [Nat.add_mul] at this
    omega
  · rw [cat_set hf l k u hk]
    exact hK

/-- One fact is kept, whatever else is known. -/
theorem HImp.pick {w0 : Base} {H : List HO} {h : HO} (hm : h ∈ H) : HImp w0 H [h] := HImp.sub (List.singleton_sublist.2 hm)

theorem HImp.pick2 {w0 : Base} {H A : List HO} (h : A.Sublist H) : HImp w0 H A := HImp.sub h

/-- Where the walk knows already that the index is below the length. -/
theorem amid {A B C : Prop} (h : A ∧ B ∧ C) : A ∧ C := ⟨h.1, h.2.2⟩

theorem HImp.app (w0 : Base) (N H : List HO) : HImp w0 (N ++ H) H := HImp.sub (List.sublist_append_right _ _)

end Go.SX
