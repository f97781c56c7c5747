/- A part of a proof: the symbolic walk and what it shows of single functions. -/
import Derived.Test.YtpfbpelkodlljaaSxZ00
set_option linter.all false
namespace Go.Proofs.Ytpfbpelkodlljaa
open Go.RowKit Go.SX Go.ChangeShapes Go.WideShapes Go.ChangeAt
set_option maxRecDepth 4000

theorem flat_ints : flat Try.prog 4 44 = some [.slice 3] := by kernel_rfl
theorem cells_int : Try.prog.cellsOf 3 = 1 := by kernel_rfl

theorem ints_of {H : Type} {enc : TypeId × Value → H} {w : World} {base : Nat} {v : Value} {d : DataW H} {ps : List MemPlace} (h : Value.okWide Try.prog w .any base 44 v) (hd : DataW.Trod enc Try.prog w 0 (fun _ => true) true 44 v d ps) : ∃ l, Sl w v 1 (ints l) ∧ l.length ≤ 9223372036854775807 := by
  have hl := lvs_of_Trod hd 4 flat_ints
  have hv : v.cells.toList = [v] := by
    cases v with
    | agg cs =>
      exfalso
      unfold Value.okWide at h
      rw [Try.underlying44] at h
      simp only [Cell.okWide, Try.underlying44] at h
      unfold Cell.ok at h
      simp only [Try.underlying44] at h
    | _ => rfl
  rw [hv] at hl
  cases hl with
  | slice xss hl hc hm hs h1 hx r =>
    rename_i a len cap
    obtain ⟨l, hu, hl2⟩ := cat_of (f := i1) (xss := xss) fun xs hxs => by
      have := hx xs hxs 4 _ flat_int
      cases this with | int _ h => cases h with | nil => exact ⟨_, rfl⟩
    rw [cells_int, hu] at hs
    exact ⟨l, hs, by unfold maxLen at hm; omega⟩

end Go.Proofs.Ytpfbpelkodlljaa
