/- A part of a proof: the symbolic walk and what it shows of single functions. -/
import Derived.Test.YtcnjhgnlcnmagaaDoorScLa
set_option linter.all false
namespace Go.Proofs.YtcnjhgnlcnmagaaDoor
open Go.RowKit Go.SX Go.ChangeShapes Go.WideShapes Go.ChangeAt
set_option maxRecDepth 100000

theorem leaves4 {P : Program} {w : World} {vs : List Value} (h : Lvs P w [.int .i64, .int .i64, .int .i64, .int .i64] vs) : ∃ a b c d, vs = [I a, I b, I c, I d] := by
  cases h with | int _ h => cases h with | int _ h => cases h with | int _ h => cases h with | int _ h => cases h with | nil => exact ⟨_, _, _, _, rfl⟩

theorem flat_anchor : flat Tryd.prog 4 70 = some [.int .i64, .int .i64, .int .i64, .int .i64] := by kernel_rfl
theorem flat_place : flat Tryd.prog 4 74 = some [.int .i64, .int .i64, .int .i64, .int .i64] := by kernel_rfl

theorem anchor_of {H : Type} {enc : TypeId × Value → H} {w : World} {base : Nat} {v : Value} {d : DataW H} {ps : List MemPlace} (h : Value.okWide Tryd.prog w .any base 70 v) (hd : DataW.Trod enc Tryd.prog w 0 (fun _ => true) true 70 v d ps) : ∃ a b c e, v = .agg #[I a, I b, I c, I e] := by
  obtain ⟨cs, rfl⟩ := agg_of Tryd.underlying70 h
  obtain ⟨a, b, c, e, hl⟩ := leaves4 (lvs_of_Trod hd 4 flat_anchor)
  exact ⟨a, b, c, e, by rw [show cs = cs.toList.toArray by simp, show cs.toList = _ from hl]⟩

theorem place_of {H : Type} {enc : TypeId × Value → H} {w : World} {base : Nat} {v : Value} {d : DataW H} {ps : List MemPlace} (h : Value.okWide Tryd.prog w .any base 74 v) (hd : DataW.Trod enc Tryd.prog w 0 (fun _ => true) true 74 v d ps) : ∃ a b c e, v = .agg #[I a, I b, I c, I e] := by
  obtain ⟨cs, rfl⟩ := agg_of Tryd.underlying74 h
  obtain ⟨a, b, c, e, hl⟩ := leaves4 (lvs_of_Trod hd 4 flat_place)
  exact ⟨a, b, c, e, by rw [show cs = cs.toList.toArray by simp, show cs.toList = _ from hl]⟩

end Go.Proofs.YtcnjhgnlcnmagaaDoor
