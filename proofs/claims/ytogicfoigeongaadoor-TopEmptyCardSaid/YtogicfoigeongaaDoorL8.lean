/- Parts of a proof: the symbolic walk and what it shows of single functions. -/
import Derived.Test.YtogicfoigeongaaDoorC5
import Derived.Test.YtogicfoigeongaaDoorL7
set_option linter.all false
namespace Go.Proofs.YtogicfoigeongaaDoor
open Go.RowKit Go.SX Go.ChangeShapes Go.WideShapes Go.ChangeAt
set_option maxRecDepth 100000
theorem flat_trip : flat Tryd.prog 4 51 = some [.int .i64, .int .i64, .int .i64, .bool, .int .i64, .int .i64] := by kernel_rfl
theorem trip_of {H : Type} {enc : TypeId × Value → H} {w : World} {base : Nat} {v : Value} {d : DataW H} {ps : List MemPlace} (h : Value.okWide Tryd.prog w .any base 51 v) (hd : DataW.Trod enc Tryd.prog w 0 (fun _ => true) true 51 v d ps) : ∃ t, v = trv t := by
  obtain ⟨cs, rfl⟩ := agg_of Tryd.underlying51 h
  have hl := lvs_of_Trod hd 4 flat_trip
  rw [show (Value.agg cs).cells.toList = cs.toList from rfl] at hl
  generalize hcs : cs.toList = l at hl
  cases hl with | int _ hl => cases hl with | int _ hl => cases hl with | int _ hl => cases hl with | bool hl => cases hl with | int _ hl => cases hl with | int _ hl =>
    cases hl
    exact ⟨⟨_, _, _, _, _, _⟩, by rw [show cs = cs.toList.toArray by simp, hcs]; rfl⟩
end Go.Proofs.YtogicfoigeongaaDoor

