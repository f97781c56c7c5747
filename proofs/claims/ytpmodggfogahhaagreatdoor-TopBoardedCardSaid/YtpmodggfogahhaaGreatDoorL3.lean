/- Parts of a proof: the symbolic walk and what it shows of single functions. -/
import Derived.Test.YtpmodggfogahhaaGreatDoorC5
import Derived.Test.YtpmodggfogahhaaGreatDoorL1
set_option linter.all false
namespace Go.Proofs.YtpmodggfogahhaaGreatDoor
open Go.RowKit Go.SX Go.ChangeShapes Go.WideShapes Go.ChangeAt
set_option maxRecDepth 100000
theorem leaves7 {P : Program} {w : World} {vs : List Value} (h : Lvs P w [.int .i64, .int .i64, .int .i64, .int .i64, .int .i64, .int .i64, .int .i64] vs) : ∃ a b c d e f g, vs = [I a, I b, I c, I d, I e, I f, I g] := by
  cases h with | int _ h => cases h with | int _ h => cases h with | int _ h => cases h with | int _ h => cases h with | int _ h => cases h with | int _ h => cases h with | int _ h => cases h with | nil => exact ⟨_, _, _, _, _, _, _, rfl⟩
theorem flat_class : flat Tryz.prog 4 79 = some [.int .i64, .int .i64, .int .i64, .int .i64, .int .i64, .int .i64, .int .i64] := by kernel_rfl
end Go.Proofs.YtpmodggfogahhaaGreatDoor

namespace Go.Proofs.YtpmodggfogahhaaGreatDoor
open Go.RowKit Go.SX Go.ChangeShapes Go.WideShapes Go.ChangeAt
set_option maxRecDepth 100000
theorem flat_classes : flat Tryz.prog 4 76 = some [.slice 79] := by kernel_rfl
theorem cells_class : Tryz.prog.cellsOf 79 = 7 := by kernel_rfl
theorem classes_of {H : Type} {enc : TypeId × Value → H} {w : World} {base : Nat} {v : Value} {d : DataW H} {ps : List MemPlace} (h : Value.okWide Tryz.prog w .any base 76 v) (hd : DataW.Trod enc Tryz.prog w 0 (fun _ => true) true 76 v d ps) : ∃ l, Sl w v 7 (cat clc l) := by
  obtain ⟨a, n, c, rfl⟩ := slice_of Tryz.underlying76 h
  have hl := lvs_of_Trod hd 4 flat_classes
  rw [show (Value.slice a n c).cells.toList = [Value.slice a n c] from rfl] at hl
  cases hl with | slice x1 _ _ _ s1 _ e1 hl =>
    obtain ⟨us, hu, _⟩ := cat_of (f := clc) (xss := x1) fun xs hxs => by
      obtain ⟨a, b, c, d, e, f, g, hl⟩ := leaves7 (e1 xs hxs 4 _ flat_class)
      exact ⟨⟨a, b, c, d, e, f, g⟩, hl⟩
    rw [cells_class, hu] at s1
    exact ⟨us, s1⟩
end Go.Proofs.YtpmodggfogahhaaGreatDoor

