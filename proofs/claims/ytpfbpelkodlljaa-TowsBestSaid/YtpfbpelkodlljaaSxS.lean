/- Blocks of single variables that are known by a fact: read and written. -/
import Derived.Test.YtpfbpelkodlljaaSxR3
set_option linter.all false
namespace Go.SX
open Go.RowKit

theorem ld_cell {w0 : Base} {H : List HO} {b o : Nat} {T : TypeId} {cs : List Value} {v : Value} {K : SV → Prop} (h : HO.cells b T cs ∈ H) (hv : cs[o]? = some v) (hK : K (.v v)) : hold (LdOb w0 H ⟨b, o, none⟩ none K) ⟨0⟩ :=
  ⟨v, .inr ⟨_, h, fun w hw => by rw [cell_of_cells hw]; simpa using hv⟩, hK⟩

theorem ld_cella {w0 : Base} {H : List HO} {b o : Nat} {T : TypeId} {cs : List Value} {v : Value} {K : SV → Prop} (h : HO.cells b T cs ∈ H) (hv : cs[o]? = some v) (hK : K (.v v)) : hold (LdOb w0 H ((⟨b, 0, none⟩ : Addr).add o) none K) ⟨0⟩ := by
  rw [add_block, Nat.zero_add]
  exact ld_cell h hv hK

/-- Some cells of a variable. -/
theorem ld_cells {w0 : Base} {H : List HO} {b o n : Nat} {T : TypeId} {cs : List Value} (vs : List Value) {K : SV → Prop} (h : HO.cells b T cs ∈ H) (hv : (cs.drop o).take n = vs) (hl : vs.length = n) (hK : K (.v (.agg vs.toArray))) : hold (LdOb w0 H ⟨b, o, none⟩ (some n) K) ⟨0⟩ := by
  refine ⟨vs, hl, fun i v hi => ?_, hK⟩
  refine .inr ⟨_, h, fun w hw => ?_⟩
  rw [add_block, cell_of_cells hw]
  subst hv
  rw [List.getElem?_take] at hi
  split at hi
  · simpa using hi
  · cases hi

theorem ld_cellsa {w0 : Base} {H : List HO} {b o n : Nat} {T : TypeId} {cs : List Value} (vs : List Value) {K : SV → Prop} (h : HO.cells b T cs ∈ H) (hv : (cs.drop o).take n = vs) (hl : vs.length = n) (hK : K (.v (.agg vs.toArray))) : hold (LdOb w0 H ((⟨b, 0, none⟩ : Addr).add o) (some n) K) ⟨0⟩ := by
  rw [add_block, Nat.zero_add]
  exact ld_cells vs h hv hl hK

theorem cells_write {b o : Nat} {T : TypeId} {cs vs : List Value} (ho : o + vs.length ≤ cs.length) :
    WrStep (.cells b T cs) ⟨b, o, none⟩ vs (.cells b T (cs.take o ++ vs ++ cs.drop (o + vs.length))) := by
  refine ⟨fun c => ⟨Iff.rfl, Iff.rfl⟩, fun w hw => ⟨b, o, cs.toArray, T, rfl, rfl, hw, by simpa using ho, fun w' hw' _ _ => ?_⟩⟩
  exact hw'

/-- A variable is written. -/
theorem wr_cell {H A B : List HO} {b o : Nat} {T : TypeId} {cs vs : List Value} {K : List HO → Prop} (hH : H = A ++ .cells b T cs :: B) (ho : o + vs.length ≤ cs.length)
    (hK : K (A ++ .cells b T (cs.take o ++ vs ++ cs.drop (o + vs.length)) :: B)) : hold (WrOb H ⟨b, o, none⟩ vs K) ⟨0⟩ :=
  ⟨A, _, B, _, hH, cells_write ho, hK⟩

theorem wr_cella {H A B : List HO} {b o : Nat} {T : TypeId} {cs vs : List Value} {K : List HO → Prop} (hH : H = A ++ .cells b T cs :: B) (ho : o + vs.length ≤ cs.length)
    (hK : K (A ++ .cells b T (cs.take o ++ vs ++ cs.drop (o + vs.length)) :: B)) : hold (WrOb H ((⟨b, 0, none⟩ : Addr).add o) vs K) ⟨0⟩ := by
  rw [add_block, Nat.zero_add]
  exact wr_cell hH ho hK

theorem Got.mono {α : Type} {x : Value} {e sz : Nat} {f : α → List Value} {l : List α} {N N' : List HO} (h : Got x e sz f l N) (hm : ∀ h ∈ N, h ∈ N') : Got x e sz f l N' := by
  obtain ⟨ad, c, h1, h2, h3⟩ := h
  exact ⟨ad, c, h1, h2, h3.imp id fun h => hm _ h⟩

end Go.SX
