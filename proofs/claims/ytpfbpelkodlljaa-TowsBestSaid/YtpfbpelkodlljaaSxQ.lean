/- Slices that are read: what the walk asks, from what is known of them. -/
import Derived.Test.YtpfbpelkodlljaaSxO
set_option linter.all false
namespace Go.SX
open Go.RowKit

theorem ld1 {w0 : Base} {H : List HO} {ad : Addr} {xs : List Value} {i : Nat} {v : Value} {K : SV → Prop} (hm : Rds w0 H ad xs) (hv : xs[i]? = some v) (hK : K (.v v)) : LdOb w0 H (ad.add i) none K :=
  ⟨v, hm i v hv, hK⟩

theorem ldn {w0 : Base} {H : List HO} {ad : Addr} {xs vs : List Value} {i n : Nat} {K : SV → Prop} (hm : Rds w0 H ad xs) (hl : vs.length = n) (hv : ∀ j v, vs[j]? = some v → xs[i + j]? = some v) (hK : K (.v (.agg vs.toArray))) : LdOb w0 H (ad.add i) (some n) K :=
  ⟨vs, hl, fun j v hj => by rw [add_add]; exact hm _ v (hv j v hj), hK⟩

theorem Sl.len {w : World} {a : Option Addr} {n c sz : Nat} {xs : List Value} (h : Sl w (.slice a n c) sz xs) : xs.length = n * sz := by
  obtain ⟨_, _, _, e, hl, _⟩ := h
  cases e
  exact hl

theorem Sl.addr {w : World} {a : Option Addr} {n c sz : Nat} {xs : List Value} (h : Sl w (.slice a n c) sz xs) (hn : 0 < xs.length) : ∃ ad, a = some ad := by
  obtain ⟨_, _, _, e, _, hc⟩ := h
  cases e
  obtain ⟨ad, e, _⟩ := hc 0 xs[0] (by simp [hn])
  exact ⟨ad, e⟩

theorem Sl.rds {w : World} {X : Nat → Prop} {H : List HO} {ad : Addr} {n c sz : Nat} {xs : List Value} (h : Sl w (.slice (some ad) n c) sz xs) (hX : ¬ X ad.block) : Rds ⟨w, X⟩ H ad xs :=
  fun _ _ hi => Sl.rd (w0 := ⟨w, X⟩) h hX hi

theorem row_rds {w0 : Base} {H : List HO} {ad : Addr} {len cap sz : Nat} {E : TypeId} {xs : List Value} (h : HO.row (.slice (some ad) len cap) E sz xs ∈ H) : Rds w0 H ad xs := fun _ _ hi => row_rd h hi

/-- A slice that reads so, whatever the walk has done. -/
theorem Sl.hp {w0 : Base} {H : List HO} {v : Value} {sz : Nat} {xs : List Value} (h : Sl w0.w v sz xs) (hX : ∀ b, v.ownBlock = some b → ¬ w0.X b) {w : World} (hp : Hp w0 H w) : Sl w v sz xs := h.keep hp.ext hX

theorem row_hp {w0 : Base} {H : List HO} {v : Value} {E : TypeId} {sz : Nat} {xs : List Value} (h : HO.row v E sz xs ∈ H) {w : World} (hp : Hp w0 H w) : Sl w v sz xs := RowOk.sl (E := E) (hp.ok _ h)

end Go.SX
