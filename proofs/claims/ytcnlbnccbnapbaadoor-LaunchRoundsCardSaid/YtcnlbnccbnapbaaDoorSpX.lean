/- A part of a proof: the symbolic walk and what it shows of single functions. -/
import Derived.Test.YtcnlbnccbnapbaaDoorC5
import Derived.Test.YtcnlbnccbnapbaaDoorP8
set_option linter.all false
namespace Go.Proofs.YtcnlbnccbnapbaaDoor
open Go.RowKit Go.SX Go.ChangeShapes Go.WideShapes Go.ChangeAt
set_option maxRecDepth 100000
theorem leaves7 {P : Program} {w : World} {vs : List Value} (h : Lvs P w [.int .i64, .int .i64, .int .i64, .int .i64, .int .i64, .int .i64, .int .i64] vs) : ∃ a b c d e f g, vs = [I a, I b, I c, I d, I e, I f, I g] := by
  cases h with | int _ h => cases h with | int _ h => cases h with | int _ h => cases h with | int _ h => cases h with | int _ h => cases h with | int _ h => cases h with | int _ h => cases h with | nil => exact ⟨_, _, _, _, _, _, _, rfl⟩
theorem leaves9 {P : Program} {w : World} {vs : List Value} (h : Lvs P w [.int .i64, .int .i64, .int .i64, .int .i64, .int .i64, .int .i64, .int .i64, .int .i64, .int .i64] vs) : ∃ a b c d e f g h i, vs = [I a, I b, I c, I d, I e, I f, I g, I h, I i] := by
  cases h with | int _ h => cases h with | int _ h => cases h with | int _ h => cases h with | int _ h => cases h with | int _ h => cases h with | int _ h => cases h with | int _ h => cases h with | int _ h => cases h with | int _ h => cases h with | nil => exact ⟨_, _, _, _, _, _, _, _, _, rfl⟩
theorem flat_class : flat Tryd.prog 4 27 = some [.int .i64, .int .i64, .int .i64, .int .i64, .int .i64, .int .i64, .int .i64] := by kernel_rfl
theorem flat_order : flat Tryd.prog 4 33 = some [.int .i64, .int .i64, .int .i64, .int .i64, .int .i64, .int .i64, .int .i64, .int .i64, .int .i64] := by kernel_rfl
theorem class_of {H : Type} {enc : TypeId × Value → H} {w : World} {base : Nat} {v : Value} {d : DataW H} {ps : List MemPlace} (h : Value.okWide Tryd.prog w .any base 27 v) (hd : DataW.Trod enc Tryd.prog w 0 (fun _ => true) true 27 v d ps) : ∃ b, v = clv b := by
  obtain ⟨cs, rfl⟩ := agg_of Tryd.underlying27 h
  obtain ⟨a, b, c, d, e, f, g, hl⟩ := leaves7 (lvs_of_Trod hd 4 flat_class)
  exact ⟨⟨a, b, c, d, e, f, g⟩, by rw [show cs = cs.toList.toArray by simp, show cs.toList = _ from hl]; rfl⟩
theorem order_of {H : Type} {enc : TypeId × Value → H} {w : World} {base : Nat} {v : Value} {d : DataW H} {ps : List MemPlace} (h : Value.okWide Tryd.prog w .any base 33 v) (hd : DataW.Trod enc Tryd.prog w 0 (fun _ => true) true 33 v d ps) : ∃ o, v = orv o := by
  obtain ⟨cs, rfl⟩ := agg_of Tryd.underlying33 h
  obtain ⟨a, b, c, d, e, f, g, h, i, hl⟩ := leaves9 (lvs_of_Trod hd 4 flat_order)
  exact ⟨⟨⟨a, b, c, d, e⟩, f, g, h, i⟩, by rw [show cs = cs.toList.toArray by simp, show cs.toList = _ from hl]; rfl⟩
end Go.Proofs.YtcnlbnccbnapbaaDoor
