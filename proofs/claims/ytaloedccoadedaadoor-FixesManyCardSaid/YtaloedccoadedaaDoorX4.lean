/- Parts of a proof: the symbolic walk and what it shows of single functions. -/
import Derived.Test.YtaloedccoadedaaDoorRows
import Derived.Test.YtaloedccoadedaaDoorX3
set_option linter.all false
namespace Go.Proofs.YtaloedccoadedaaDoor
open Go.RowKit Go.SX
set_option maxRecDepth 4000
theorem tr0 : arT Tryd.prog 101 = none := by kernel_rfl
theorem tr1 : arT Tryd.prog 108 = none := by kernel_rfl
theorem tr2 : arT Tryd.prog 149 = some (6, 3, some 3) := by kernel_rfl
theorem tr3 : arT Tryd.prog 157 = some (6, 1, none) := by kernel_rfl
theorem tr5 : arT Tryd.prog 159 = some (64, 1, none) := by kernel_rfl
theorem tr6 : arT Tryd.prog 22 = none := by kernel_rfl
theorem tr7 : arT Tryd.prog 23 = none := by kernel_rfl
theorem tr8 : arT Tryd.prog 26 = none := by kernel_rfl
theorem tr9 : arT Tryd.prog 84 = none := by kernel_rfl
theorem tr10 : arT Tryd.prog 88 = none := by kernel_rfl
theorem tr11 : elT Tryd.prog 101 = some (146, 1, [.int .i8 0], 1) := by kernel_rfl
theorem tr12 : elT Tryd.prog 108 = some (84, 1, [.slice none 0 0], 24) := by kernel_rfl
theorem tr13 : elT Tryd.prog 22 = some (3, 1, [.int .i64 0], 8) := by kernel_rfl
theorem tr14 : elT Tryd.prog 23 = some (58, 2, [.int .i64 0, .int .i64 0], 16) := by kernel_rfl
theorem tr15 : elT Tryd.prog 26 = some (47, 9, [.int .i64 0, .int .i64 0, .int .i64 0, .int .i64 0, .int .i64 0, .int .i64 0, .int .i64 0, .bool false, .int .i64 0], 72) := by kernel_rfl
theorem tr16 : elT Tryd.prog 84 = some (4, 1, [.bool false], 1) := by kernel_rfl
theorem tr17 : elT Tryd.prog 88 = some (22, 1, [.slice none 0 0], 24) := by kernel_rfl
theorem tr18 : intT Tryd.prog 152 = some .u32 := by kernel_rfl
theorem tr20 : intT Tryd.prog 3 = some .i64 := by kernel_rfl
theorem tr21 : intT Tryd.prog 37 = some .u64 := by kernel_rfl
theorem tr22 : intT Tryd.prog 5 = some .u8 := by kernel_rfl
theorem tr23 : kdT Tryd.prog 146 = some 0 := by kernel_rfl
theorem tr25 : kdT Tryd.prog 154 = some 0 := by kernel_rfl
theorem tr26 : kdT Tryd.prog 22 = some 2 := by kernel_rfl
theorem tr27 : kdT Tryd.prog 3 = some 0 := by kernel_rfl
theorem tr28 : kdT Tryd.prog 30 = some 0 := by kernel_rfl
theorem tr29 : kdT Tryd.prog 37 = some 0 := by kernel_rfl
theorem tr31 : kdT Tryd.prog 88 = some 2 := by kernel_rfl
theorem tr32 : ldT Tryd.prog 101 = some none := by kernel_rfl
theorem tr33 : ldT Tryd.prog 108 = some none := by kernel_rfl
theorem tr34 : ldT Tryd.prog 129 = some (some 2) := by kernel_rfl
theorem tr35 : ldT Tryd.prog 138 = some none := by kernel_rfl
theorem tr36 : ldT Tryd.prog 146 = some none := by kernel_rfl
theorem tr37 : ldT Tryd.prog 148 = some (some 3) := by kernel_rfl
theorem tr38 : ldT Tryd.prog 22 = some none := by kernel_rfl
theorem tr39 : ldT Tryd.prog 23 = some none := by kernel_rfl
theorem tr40 : ldT Tryd.prog 25 = some (some 5) := by kernel_rfl
theorem tr41 : ldT Tryd.prog 26 = some none := by kernel_rfl
theorem tr42 : ldT Tryd.prog 28 = some (some 8) := by kernel_rfl
theorem tr43 : ldT Tryd.prog 3 = some none := by kernel_rfl
theorem tr44 : ldT Tryd.prog 30 = some none := by kernel_rfl
theorem tr45 : ldT Tryd.prog 4 = some none := by kernel_rfl
theorem tr46 : ldT Tryd.prog 47 = some (some 9) := by kernel_rfl
theorem tr47 : ldT Tryd.prog 5 = some none := by kernel_rfl
theorem tr48 : ldT Tryd.prog 58 = some (some 2) := by kernel_rfl
theorem tr49 : ldT Tryd.prog 62 = some none := by kernel_rfl
theorem tr50 : ldT Tryd.prog 67 = some none := by kernel_rfl
theorem tr51 : ldT Tryd.prog 84 = some none := by kernel_rfl
theorem tr52 : ldT Tryd.prog 88 = some none := by kernel_rfl
theorem tr53 : ldT Tryd.prog 94 = some (some 5) := by kernel_rfl
theorem tr54 : offT Tryd.prog 103 0 = some 0 := by kernel_rfl
theorem tr55 : offT Tryd.prog 103 1 = some 1 := by kernel_rfl
theorem tr56 : offT Tryd.prog 110 0 = some 0 := by kernel_rfl
theorem tr57 : offT Tryd.prog 110 1 = some 8 := by kernel_rfl
theorem tr58 : offT Tryd.prog 110 2 = some 9 := by kernel_rfl
theorem tr59 : offT Tryd.prog 110 3 = some 10 := by kernel_rfl
theorem tr60 : offT Tryd.prog 129 0 = some 0 := by kernel_rfl
theorem tr61 : offT Tryd.prog 129 1 = some 1 := by kernel_rfl
theorem tr62 : offT Tryd.prog 148 0 = some 0 := by kernel_rfl
theorem tr63 : offT Tryd.prog 148 1 = some 1 := by kernel_rfl
theorem tr64 : offT Tryd.prog 148 2 = some 2 := by kernel_rfl
theorem tr65 : offT Tryd.prog 25 0 = some 0 := by kernel_rfl
theorem tr66 : offT Tryd.prog 25 1 = some 1 := by kernel_rfl
theorem tr67 : offT Tryd.prog 25 2 = some 2 := by kernel_rfl
theorem tr68 : offT Tryd.prog 25 3 = some 3 := by kernel_rfl
theorem tr69 : offT Tryd.prog 25 4 = some 4 := by kernel_rfl
theorem tr70 : offT Tryd.prog 28 0 = some 0 := by kernel_rfl
theorem tr71 : offT Tryd.prog 28 1 = some 5 := by kernel_rfl
theorem tr72 : offT Tryd.prog 28 2 = some 6 := by kernel_rfl
theorem tr73 : offT Tryd.prog 28 3 = some 7 := by kernel_rfl
theorem tr74 : offT Tryd.prog 47 0 = some 0 := by kernel_rfl
theorem tr75 : offT Tryd.prog 47 1 = some 1 := by kernel_rfl
theorem tr76 : offT Tryd.prog 47 2 = some 2 := by kernel_rfl
theorem tr77 : offT Tryd.prog 47 3 = some 3 := by kernel_rfl
theorem tr78 : offT Tryd.prog 47 4 = some 4 := by kernel_rfl
theorem tr79 : offT Tryd.prog 47 5 = some 5 := by kernel_rfl
theorem tr80 : offT Tryd.prog 47 6 = some 6 := by kernel_rfl
theorem tr81 : offT Tryd.prog 47 7 = some 7 := by kernel_rfl
theorem tr82 : offT Tryd.prog 47 8 = some 8 := by kernel_rfl
theorem tr83 : offT Tryd.prog 58 0 = some 0 := by kernel_rfl
theorem tr84 : offT Tryd.prog 58 1 = some 1 := by kernel_rfl
theorem tr85 : offT Tryd.prog 94 0 = some 0 := by kernel_rfl
theorem tr86 : offT Tryd.prog 98 0 = some 0 := by kernel_rfl
theorem tr87 : offT Tryd.prog 98 1 = some 1 := by kernel_rfl
theorem tr88 : offT Tryd.prog 98 2 = some 2 := by kernel_rfl
theorem tr89 : placesT Tryd.prog 103 = some [(0, 1), (1, 1)] := by kernel_rfl
theorem tr90 : placesT Tryd.prog 110 = some [(0, 8), (8, 1), (9, 1), (10, 1)] := by kernel_rfl
theorem tr91 : placesT Tryd.prog 129 = some [(0, 1), (1, 1)] := by kernel_rfl
theorem tr92 : placesT Tryd.prog 157 = some [(0, 1), (1, 1), (2, 1), (3, 1), (4, 1), (5, 1)] := by kernel_rfl
theorem tr93 : placesT Tryd.prog 25 = some [(0, 1), (1, 1), (2, 1), (3, 1), (4, 1)] := by kernel_rfl
theorem tr94 : placesT Tryd.prog 28 = some [(0, 5), (5, 1), (6, 1), (7, 1)] := by kernel_rfl
theorem tr95 : placesT Tryd.prog 47 = some [(0, 1), (1, 1), (2, 1), (3, 1), (4, 1), (5, 1), (6, 1), (7, 1), (8, 1)] := by kernel_rfl
theorem tr96 : placesT Tryd.prog 58 = some [(0, 1), (1, 1)] := by kernel_rfl
theorem tr97 : placesT Tryd.prog 94 = some [(0, 5)] := by kernel_rfl
theorem tr98 : placesT Tryd.prog 98 = some [(0, 1), (1, 1), (2, 1)] := by kernel_rfl
theorem tr99 : slT Tryd.prog 101 = some (146, 1) := by kernel_rfl
theorem tr100 : slT Tryd.prog 108 = some (84, 1) := by kernel_rfl
theorem tr101 : slT Tryd.prog 149 = none := by kernel_rfl
theorem tr102 : slT Tryd.prog 157 = none := by kernel_rfl
theorem tr104 : slT Tryd.prog 159 = none := by kernel_rfl
theorem tr105 : slT Tryd.prog 22 = some (3, 1) := by kernel_rfl
theorem tr106 : slT Tryd.prog 23 = some (58, 2) := by kernel_rfl
theorem tr107 : slT Tryd.prog 26 = some (47, 9) := by kernel_rfl
theorem tr108 : slT Tryd.prog 84 = some (4, 1) := by kernel_rfl
theorem tr109 : slT Tryd.prog 88 = some (22, 1) := by kernel_rfl
theorem tr110 : szT Tryd.prog 108 = some 1 := by kernel_rfl
theorem tr111 : szT Tryd.prog 129 = some 2 := by kernel_rfl
theorem tr112 : szT Tryd.prog 138 = some 1 := by kernel_rfl
theorem tr113 : szT Tryd.prog 146 = some 1 := by kernel_rfl
theorem tr114 : szT Tryd.prog 148 = some 3 := by kernel_rfl
theorem tr115 : szT Tryd.prog 157 = some 6 := by kernel_rfl
theorem tr116 : szT Tryd.prog 22 = some 1 := by kernel_rfl
theorem tr117 : szT Tryd.prog 23 = some 1 := by kernel_rfl
theorem tr118 : szT Tryd.prog 25 = some 5 := by kernel_rfl
theorem tr119 : szT Tryd.prog 26 = some 1 := by kernel_rfl
theorem tr120 : szT Tryd.prog 28 = some 8 := by kernel_rfl
theorem tr121 : szT Tryd.prog 3 = some 1 := by kernel_rfl
theorem tr122 : szT Tryd.prog 30 = some 1 := by kernel_rfl
theorem tr123 : szT Tryd.prog 4 = some 1 := by kernel_rfl
theorem tr124 : szT Tryd.prog 47 = some 9 := by kernel_rfl
theorem tr125 : szT Tryd.prog 58 = some 2 := by kernel_rfl
theorem tr127 : szT Tryd.prog 88 = some 1 := by kernel_rfl
theorem tr128 : szT Tryd.prog 94 = some 5 := by kernel_rfl
theorem tr129 : zeroT Tryd.prog 103 = some [.pointer none, .slice none 0 0] := by kernel_rfl
theorem tr130 : zeroT Tryd.prog 110 = some [.int .i64 0, .int .i64 0, .slice none 0 0, .slice none 0 0, .slice none 0 0, .int .i64 0, .int .i64 0, .slice none 0 0, .slice none 0 0, .slice none 0 0, .slice none 0 0] := by kernel_rfl
theorem tr131 : zeroT Tryd.prog 129 = some [.int .i64 0, .int .i64 0] := by kernel_rfl
theorem tr132 : zeroT Tryd.prog 138 = some [.nilFunc] := by kernel_rfl
theorem tr133 : zeroT Tryd.prog 148 = some [.int .i64 0, .int .i64 0, .int .i64 0] := by kernel_rfl
theorem tr134 : zeroT Tryd.prog 157 = some [.int .i64 0, .int .i64 0, .int .i64 0, .int .i64 0, .int .i64 0, .int .i64 0] := by kernel_rfl
theorem tr135 : zeroT Tryd.prog 22 = some [.slice none 0 0] := by kernel_rfl
theorem tr136 : zeroT Tryd.prog 25 = some [.int .i64 0, .int .i64 0, .slice none 0 0, .slice none 0 0, .slice none 0 0] := by kernel_rfl
theorem tr137 : zeroT Tryd.prog 28 = some [.int .i64 0, .int .i64 0, .slice none 0 0, .slice none 0 0, .slice none 0 0, .int .i64 0, .int .i64 0, .slice none 0 0] := by kernel_rfl
theorem tr138 : zeroT Tryd.prog 30 = some [.int .i64 0] := by kernel_rfl
theorem tr139 : zeroT Tryd.prog 47 = some [.int .i64 0, .int .i64 0, .int .i64 0, .int .i64 0, .int .i64 0, .int .i64 0, .int .i64 0, .bool false, .int .i64 0] := by kernel_rfl
theorem tr140 : zeroT Tryd.prog 58 = some [.int .i64 0, .int .i64 0] := by kernel_rfl
theorem tr142 : zeroT Tryd.prog 94 = some [.int .i64 0, .int .i64 0, .slice none 0 0, .slice none 0 0, .slice none 0 0] := by kernel_rfl
theorem tr143 : zeroT Tryd.prog 98 = some [.slice none 0 0, .slice none 0 0, .slice none 0 0] := by kernel_rfl
theorem tf9 : (CallT Tryd.prog 13 = True) ∧ (CallT Tryd.prog 15 = True) ∧ (CallT Tryd.prog 20 = True) ∧ (CallT Tryd.prog 24 = True) ∧ (CallT Tryd.prog 37 = True) ∧ (CallT Tryd.prog 38 = True) ∧ (kdT Tryd.prog 30 = some 0) ∧ (ldT Tryd.prog 28 = some (some 8)) := ⟨eq_true Tryd.call13, eq_true Tryd.call15, eq_true Tryd.call20, eq_true Tryd.call24, eq_true Tryd.call37, eq_true Tryd.call38, tr28, tr42⟩
theorem tf10 : (CallT Tryd.prog 13 = True) ∧ (CallT Tryd.prog 14 = True) ∧ (CallT Tryd.prog 15 = True) ∧ (CallT Tryd.prog 17 = True) ∧ (CallT Tryd.prog 37 = True) ∧ (CallT Tryd.prog 39 = True) ∧ (arT Tryd.prog 22 = none) ∧ (kdT Tryd.prog 3 = some 0) ∧ (kdT Tryd.prog 30 = some 0) ∧ (ldT Tryd.prog 26 = some none) ∧ (ldT Tryd.prog 28 = some (some 8)) ∧ (ldT Tryd.prog 3 = some none) ∧ (offT Tryd.prog 28 3 = some 7) ∧ (slT Tryd.prog 22 = some (3, 1)) ∧ (slT Tryd.prog 26 = some (47, 9)) := ⟨eq_true Tryd.call13, eq_true Tryd.call14, eq_true Tryd.call15, eq_true Tryd.call17, eq_true Tryd.call37, eq_true Tryd.call39, tr6, tr27, tr28, tr41, tr42, tr43, tr73, tr105, tr107⟩
theorem tf13 : (CallT Tryd.prog 14 = True) ∧ (CallT Tryd.prog 41 = True) ∧ (kdT Tryd.prog 3 = some 0) ∧ (kdT Tryd.prog 30 = some 0) ∧ (ldT Tryd.prog 23 = some none) ∧ (ldT Tryd.prog 25 = some (some 5)) ∧ (ldT Tryd.prog 26 = some none) ∧ (ldT Tryd.prog 28 = some (some 8)) ∧ (ldT Tryd.prog 3 = some none) ∧ (offT Tryd.prog 25 0 = some 0) ∧ (offT Tryd.prog 25 1 = some 1) ∧ (offT Tryd.prog 25 3 = some 3) ∧ (offT Tryd.prog 28 0 = some 0) ∧ (offT Tryd.prog 28 3 = some 7) ∧ (slT Tryd.prog 23 = some (58, 2)) ∧ (slT Tryd.prog 26 = some (47, 9)) := ⟨eq_true Tryd.call14, eq_true Tryd.call41, tr27, tr28, tr39, tr40, tr41, tr42, tr43, tr65, tr66, tr68, tr70, tr73, tr106, tr107⟩
theorem tf14 : (CallT Tryd.prog 42 = True) ∧ (CallT Tryd.prog 43 = True) ∧ (CallT Tryd.prog 44 = True) ∧ (CallT Tryd.prog 45 = True) ∧ (arT Tryd.prog 26 = none) ∧ (kdT Tryd.prog 3 = some 0) ∧ (kdT Tryd.prog 30 = some 0) ∧ (ldT Tryd.prog 25 = some (some 5)) ∧ (ldT Tryd.prog 26 = some none) ∧ (ldT Tryd.prog 28 = some (some 8)) ∧ (ldT Tryd.prog 3 = some none) ∧ (ldT Tryd.prog 47 = some (some 9)) ∧ (offT Tryd.prog 28 0 = some 0) ∧ (offT Tryd.prog 28 1 = some 5) ∧ (offT Tryd.prog 28 2 = some 6) ∧ (offT Tryd.prog 28 3 = some 7) ∧ (slT Tryd.prog 26 = some (47, 9)) := ⟨eq_true Tryd.call42, eq_true Tryd.call43, eq_true Tryd.call44, eq_true Tryd.call45, tr8, tr27, tr28, tr40, tr41, tr42, tr43, tr46, tr70, tr71, tr72, tr73, tr107⟩
theorem tf15 : (CallT Tryd.prog 16 = True) ∧ (CallT Tryd.prog 17 = True) ∧ (CallT Tryd.prog 24 = True) ∧ (CallT Tryd.prog 25 = True) ∧ (CallT Tryd.prog 46 = True) ∧ (elT Tryd.prog 22 = some (3, 1, [.int .i64 0], 8)) ∧ (elT Tryd.prog 26 = some (47, 9, [.int .i64 0, .int .i64 0, .int .i64 0, .int .i64 0, .int .i64 0, .int .i64 0, .int .i64 0, .bool false, .int .i64 0], 72)) ∧ (kdT Tryd.prog 3 = some 0) ∧ (kdT Tryd.prog 30 = some 0) ∧ (ldT Tryd.prog 26 = some none) ∧ (ldT Tryd.prog 28 = some (some 8)) ∧ (ldT Tryd.prog 47 = some (some 9)) ∧ (offT Tryd.prog 28 3 = some 7) ∧ (szT Tryd.prog 26 = some 1) ∧ (szT Tryd.prog 28 = some 8) ∧ (szT Tryd.prog 47 = some 9) ∧ (zeroT Tryd.prog 28 = some [.int .i64 0, .int .i64 0, .slice none 0 0, .slice none 0 0, .slice none 0 0, .int .i64 0, .int .i64 0, .slice none 0 0]) ∧ (zeroT Tryd.prog 47 = some [.int .i64 0, .int .i64 0, .int .i64 0, .int .i64 0, .int .i64 0, .int .i64 0, .int .i64 0, .bool false, .int .i64 0]) := ⟨eq_true Tryd.call16, eq_true Tryd.call17, eq_true Tryd.call24, eq_true Tryd.call25, eq_true Tryd.call46, tr13, tr15, tr27, tr28, tr41, tr42, tr46, tr73, tr119, tr120, tr124, tr137, tr139⟩
theorem tf16 : (CallT Tryd.prog 47 = True) ∧ (CallT Tryd.prog 48 = True) ∧ (CallT Tryd.prog 49 = True) ∧ (kdT Tryd.prog 3 = some 0) ∧ (kdT Tryd.prog 30 = some 0) ∧ (ldT Tryd.prog 26 = some none) ∧ (ldT Tryd.prog 28 = some (some 8)) ∧ (offT Tryd.prog 28 3 = some 7) ∧ (slT Tryd.prog 26 = some (47, 9)) := ⟨eq_true Tryd.call47, eq_true Tryd.call48, eq_true Tryd.call49, tr27, tr28, tr41, tr42, tr73, tr107⟩
theorem tf17 : (CallT Tryd.prog 47 = True) ∧ (CallT Tryd.prog 50 = True) ∧ (CallT Tryd.prog 51 = True) ∧ (kdT Tryd.prog 3 = some 0) ∧ (kdT Tryd.prog 30 = some 0) ∧ (ldT Tryd.prog 28 = some (some 8)) := ⟨eq_true Tryd.call47, eq_true Tryd.call50, eq_true Tryd.call51, tr27, tr28, tr42⟩
theorem tf20 : (CallT Tryd.prog 52 = True) ∧ (elT Tryd.prog 26 = some (47, 9, [.int .i64 0, .int .i64 0, .int .i64 0, .int .i64 0, .int .i64 0, .int .i64 0, .int .i64 0, .bool false, .int .i64 0], 72)) ∧ (ldT Tryd.prog 25 = some (some 5)) ∧ (ldT Tryd.prog 26 = some none) ∧ (ldT Tryd.prog 28 = some (some 8)) ∧ (offT Tryd.prog 28 0 = some 0) ∧ (offT Tryd.prog 28 3 = some 7) ∧ (szT Tryd.prog 25 = some 5) ∧ (szT Tryd.prog 26 = some 1) ∧ (szT Tryd.prog 28 = some 8) ∧ (zeroT Tryd.prog 28 = some [.int .i64 0, .int .i64 0, .slice none 0 0, .slice none 0 0, .slice none 0 0, .int .i64 0, .int .i64 0, .slice none 0 0]) := ⟨eq_true Tryd.call52, tr15, tr40, tr41, tr42, tr70, tr73, tr118, tr119, tr120, tr137⟩
theorem tf24 : (arT Tryd.prog 22 = none) ∧ (kdT Tryd.prog 3 = some 0) ∧ (ldT Tryd.prog 3 = some none) ∧ (slT Tryd.prog 22 = some (3, 1)) := ⟨tr6, tr27, tr43, tr105⟩
theorem tf25 : (CallT Tryd.prog 47 = True) ∧ (CallT Tryd.prog 50 = True) ∧ (CallT Tryd.prog 59 = True) ∧ (kdT Tryd.prog 3 = some 0) ∧ (kdT Tryd.prog 30 = some 0) ∧ (ldT Tryd.prog 28 = some (some 8)) := ⟨eq_true Tryd.call47, eq_true Tryd.call50, eq_true Tryd.call59, tr27, tr28, tr42⟩
theorem tf32 : (CallT Tryd.prog 63 = True) ∧ (CallT Tryd.prog 68 = True) ∧ (CallT Tryd.prog 69 = True) ∧ (CallT Tryd.prog 70 = True) ∧ (arT Tryd.prog 26 = none) ∧ (kdT Tryd.prog 3 = some 0) ∧ (kdT Tryd.prog 30 = some 0) ∧ (ldT Tryd.prog 22 = some none) ∧ (ldT Tryd.prog 23 = some none) ∧ (ldT Tryd.prog 25 = some (some 5)) ∧ (ldT Tryd.prog 26 = some none) ∧ (ldT Tryd.prog 3 = some none) ∧ (ldT Tryd.prog 47 = some (some 9)) ∧ (offT Tryd.prog 25 2 = some 2) ∧ (offT Tryd.prog 25 3 = some 3) ∧ (offT Tryd.prog 28 0 = some 0) ∧ (offT Tryd.prog 28 1 = some 5) ∧ (offT Tryd.prog 28 2 = some 6) ∧ (offT Tryd.prog 28 3 = some 7) ∧ (offT Tryd.prog 47 0 = some 0) ∧ (offT Tryd.prog 47 2 = some 2) ∧ (slT Tryd.prog 22 = some (3, 1)) ∧ (slT Tryd.prog 23 = some (58, 2)) ∧ (slT Tryd.prog 26 = some (47, 9)) ∧ (szT Tryd.prog 47 = some 9) ∧ (zeroT Tryd.prog 47 = some [.int .i64 0, .int .i64 0, .int .i64 0, .int .i64 0, .int .i64 0, .int .i64 0, .int .i64 0, .bool false, .int .i64 0]) := ⟨eq_true Tryd.call63, eq_true Tryd.call68, eq_true Tryd.call69, eq_true Tryd.call70, tr8, tr27, tr28, tr38, tr39, tr40, tr41, tr43, tr46, tr67, tr68, tr70, tr71, tr72, tr73, tr74, tr76, tr105, tr106, tr107, tr124, tr139⟩
theorem tf34 : (CallT Tryd.prog 73 = True) ∧ (CallT Tryd.prog 74 = True) ∧ (elT Tryd.prog 22 = some (3, 1, [.int .i64 0], 8)) ∧ (kdT Tryd.prog 3 = some 0) ∧ (kdT Tryd.prog 30 = some 0) ∧ (ldT Tryd.prog 25 = some (some 5)) ∧ (ldT Tryd.prog 3 = some none) ∧ (ldT Tryd.prog 94 = some (some 5)) ∧ (offT Tryd.prog 58 0 = some 0) ∧ (offT Tryd.prog 58 1 = some 1) ∧ (placesT Tryd.prog 98 = some [(0, 1), (1, 1), (2, 1)]) ∧ (szT Tryd.prog 58 = some 2) ∧ (szT Tryd.prog 94 = some 5) ∧ (zeroT Tryd.prog 58 = some [.int .i64 0, .int .i64 0]) ∧ (zeroT Tryd.prog 94 = some [.int .i64 0, .int .i64 0, .slice none 0 0, .slice none 0 0, .slice none 0 0]) ∧ (zeroT Tryd.prog 98 = some [.slice none 0 0, .slice none 0 0, .slice none 0 0]) := ⟨eq_true Tryd.call73, eq_true Tryd.call74, tr13, tr27, tr28, tr40, tr43, tr53, tr83, tr84, tr98, tr125, tr128, tr140, tr142, tr143⟩
theorem tf36 : (CallT Tryd.prog 75 = True) ∧ (kdT Tryd.prog 3 = some 0) ∧ (ldT Tryd.prog 23 = some none) ∧ (offT Tryd.prog 25 3 = some 3) ∧ (slT Tryd.prog 23 = some (58, 2)) := ⟨eq_true Tryd.call75, tr27, tr39, tr68, tr106⟩
theorem tf37 : (CallT Tryd.prog 47 = True) ∧ (CallT Tryd.prog 76 = True) ∧ (elT Tryd.prog 101 = some (146, 1, [.int .i8 0], 1)) ∧ (kdT Tryd.prog 3 = some 0) ∧ (kdT Tryd.prog 30 = some 0) ∧ (ldT Tryd.prog 26 = some none) ∧ (ldT Tryd.prog 28 = some (some 8)) ∧ (offT Tryd.prog 28 3 = some 7) ∧ (placesT Tryd.prog 103 = some [(0, 1), (1, 1)]) ∧ (slT Tryd.prog 26 = some (47, 9)) ∧ (zeroT Tryd.prog 103 = some [.pointer none, .slice none 0 0]) := ⟨eq_true Tryd.call47, eq_true Tryd.call76, tr11, tr27, tr28, tr41, tr42, tr73, tr89, tr107, tr129⟩
theorem tf38 : (CallT Tryd.prog 14 = True) ∧ (CallT Tryd.prog 77 = True) ∧ (kdT Tryd.prog 3 = some 0) ∧ (kdT Tryd.prog 30 = some 0) ∧ (ldT Tryd.prog 26 = some none) ∧ (ldT Tryd.prog 28 = some (some 8)) ∧ (offT Tryd.prog 28 3 = some 7) ∧ (slT Tryd.prog 26 = some (47, 9)) := ⟨eq_true Tryd.call14, eq_true Tryd.call77, tr27, tr28, tr41, tr42, tr73, tr107⟩
theorem tf39 : (CallT Tryd.prog 78 = True) ∧ (kdT Tryd.prog 3 = some 0) ∧ (ldT Tryd.prog 28 = some (some 8)) := ⟨eq_true Tryd.call78, tr27, tr42⟩
theorem tf40 : (CallT Tryd.prog 75 = True) ∧ (CallT Tryd.prog 79 = True) ∧ (kdT Tryd.prog 3 = some 0) ∧ (ldT Tryd.prog 25 = some (some 5)) := ⟨eq_true Tryd.call75, eq_true Tryd.call79, tr27, tr40⟩
theorem tf41 : (CallT Tryd.prog 42 = True) ∧ (kdT Tryd.prog 3 = some 0) ∧ (kdT Tryd.prog 30 = some 0) ∧ (ldT Tryd.prog 22 = some none) ∧ (ldT Tryd.prog 23 = some none) ∧ (ldT Tryd.prog 25 = some (some 5)) ∧ (ldT Tryd.prog 3 = some none) ∧ (offT Tryd.prog 25 0 = some 0) ∧ (offT Tryd.prog 25 1 = some 1) ∧ (offT Tryd.prog 25 2 = some 2) ∧ (offT Tryd.prog 25 3 = some 3) ∧ (offT Tryd.prog 25 4 = some 4) ∧ (slT Tryd.prog 22 = some (3, 1)) ∧ (slT Tryd.prog 23 = some (58, 2)) := ⟨eq_true Tryd.call42, tr27, tr28, tr38, tr39, tr40, tr43, tr65, tr66, tr67, tr68, tr69, tr105, tr106⟩
theorem tf42 : (CallT Tryd.prog 75 = True) ∧ (arT Tryd.prog 22 = none) ∧ (arT Tryd.prog 23 = none) ∧ (kdT Tryd.prog 3 = some 0) ∧ (ldT Tryd.prog 22 = some none) ∧ (ldT Tryd.prog 23 = some none) ∧ (ldT Tryd.prog 3 = some none) ∧ (offT Tryd.prog 25 0 = some 0) ∧ (offT Tryd.prog 25 1 = some 1) ∧ (offT Tryd.prog 25 2 = some 2) ∧ (offT Tryd.prog 25 3 = some 3) ∧ (offT Tryd.prog 25 4 = some 4) ∧ (offT Tryd.prog 58 0 = some 0) ∧ (offT Tryd.prog 58 1 = some 1) ∧ (slT Tryd.prog 22 = some (3, 1)) ∧ (slT Tryd.prog 23 = some (58, 2)) := ⟨eq_true Tryd.call75, tr6, tr7, tr27, tr38, tr39, tr43, tr65, tr66, tr67, tr68, tr69, tr83, tr84, tr105, tr106⟩
theorem tf43 : (CallT Tryd.prog 75 = True) := eq_true Tryd.call75
theorem tf44 : (kdT Tryd.prog 3 = some 0) := tr27
theorem tf45 : (CallT Tryd.prog 36 = True) ∧ (CallT Tryd.prog 40 = True) ∧ (CallT Tryd.prog 44 = True) ∧ (CallT Tryd.prog 80 = True) ∧ (kdT Tryd.prog 3 = some 0) ∧ (ldT Tryd.prog 25 = some (some 5)) ∧ (ldT Tryd.prog 3 = some none) ∧ (ldT Tryd.prog 4 = some none) ∧ (ldT Tryd.prog 47 = some (some 9)) ∧ (offT Tryd.prog 28 0 = some 0) ∧ (offT Tryd.prog 47 0 = some 0) ∧ (offT Tryd.prog 47 1 = some 1) ∧ (offT Tryd.prog 47 2 = some 2) ∧ (offT Tryd.prog 47 3 = some 3) ∧ (offT Tryd.prog 47 4 = some 4) ∧ (offT Tryd.prog 47 5 = some 5) ∧ (offT Tryd.prog 47 6 = some 6) ∧ (offT Tryd.prog 47 7 = some 7) ∧ (offT Tryd.prog 47 8 = some 8) := ⟨eq_true Tryd.call36, eq_true Tryd.call40, eq_true Tryd.call44, eq_true Tryd.call80, tr27, tr40, tr43, tr45, tr46, tr70, tr74, tr75, tr76, tr77, tr78, tr79, tr80, tr81, tr82⟩
theorem tf46 : (CallT Tryd.prog 81 = True) ∧ (elT Tryd.prog 26 = some (47, 9, [.int .i64 0, .int .i64 0, .int .i64 0, .int .i64 0, .int .i64 0, .int .i64 0, .int .i64 0, .bool false, .int .i64 0], 72)) ∧ (ldT Tryd.prog 28 = some (some 8)) ∧ (ldT Tryd.prog 47 = some (some 9)) ∧ (placesT Tryd.prog 28 = some [(0, 5), (5, 1), (6, 1), (7, 1)]) ∧ (placesT Tryd.prog 47 = some [(0, 1), (1, 1), (2, 1), (3, 1), (4, 1), (5, 1), (6, 1), (7, 1), (8, 1)]) ∧ (szT Tryd.prog 28 = some 8) ∧ (szT Tryd.prog 47 = some 9) ∧ (zeroT Tryd.prog 28 = some [.int .i64 0, .int .i64 0, .slice none 0 0, .slice none 0 0, .slice none 0 0, .int .i64 0, .int .i64 0, .slice none 0 0]) ∧ (zeroT Tryd.prog 47 = some [.int .i64 0, .int .i64 0, .int .i64 0, .int .i64 0, .int .i64 0, .int .i64 0, .int .i64 0, .bool false, .int .i64 0]) := ⟨eq_true Tryd.call81, tr15, tr42, tr46, tr94, tr95, tr120, tr124, tr137, tr139⟩
theorem tf47 : (CallT Tryd.prog 32 = True) ∧ (CallT Tryd.prog 34 = True) ∧ (CallT Tryd.prog 82 = True) ∧ (CallT Tryd.prog 83 = True) ∧ (arT Tryd.prog 22 = none) ∧ (arT Tryd.prog 26 = none) ∧ (arT Tryd.prog 84 = none) ∧ (elT Tryd.prog 108 = some (84, 1, [.slice none 0 0], 24)) ∧ (elT Tryd.prog 22 = some (3, 1, [.int .i64 0], 8)) ∧ (elT Tryd.prog 84 = some (4, 1, [.bool false], 1)) ∧ (elT Tryd.prog 88 = some (22, 1, [.slice none 0 0], 24)) ∧ (kdT Tryd.prog 3 = some 0) ∧ (kdT Tryd.prog 30 = some 0) ∧ (ldT Tryd.prog 108 = some none) ∧ (ldT Tryd.prog 22 = some none) ∧ (ldT Tryd.prog 23 = some none) ∧ (ldT Tryd.prog 25 = some (some 5)) ∧ (ldT Tryd.prog 26 = some none) ∧ (ldT Tryd.prog 28 = some (some 8)) ∧ (ldT Tryd.prog 3 = some none) ∧ (ldT Tryd.prog 47 = some (some 9)) ∧ (ldT Tryd.prog 88 = some none) ∧ (offT Tryd.prog 110 1 = some 8) ∧ (offT Tryd.prog 110 2 = some 9) ∧ (offT Tryd.prog 110 3 = some 10) ∧ (offT Tryd.prog 25 2 = some 2) ∧ (offT Tryd.prog 25 3 = some 3) ∧ (offT Tryd.prog 28 0 = some 0) ∧ (offT Tryd.prog 28 1 = some 5) ∧ (offT Tryd.prog 28 3 = some 7) ∧ (placesT Tryd.prog 110 = some [(0, 8), (8, 1), (9, 1), (10, 1)]) ∧ (slT Tryd.prog 22 = some (3, 1)) ∧ (slT Tryd.prog 23 = some (58, 2)) ∧ (slT Tryd.prog 26 = some (47, 9)) ∧ (slT Tryd.prog 84 = some (4, 1)) ∧ (szT Tryd.prog 108 = some 1) ∧ (szT Tryd.prog 3 = some 1) ∧ (szT Tryd.prog 4 = some 1) ∧ (szT Tryd.prog 47 = some 9) ∧ (szT Tryd.prog 88 = some 1) ∧ (zeroT Tryd.prog 110 = some [.int .i64 0, .int .i64 0, .slice none 0 0, .slice none 0 0, .slice none 0 0, .int .i64 0, .int .i64 0, .slice none 0 0, .slice none 0 0, .slice none 0 0, .slice none 0 0]) ∧ (zeroT Tryd.prog 47 = some [.int .i64 0, .int .i64 0, .int .i64 0, .int .i64 0, .int .i64 0, .int .i64 0, .int .i64 0, .bool false, .int .i64 0]) := ⟨eq_true Tryd.call32, eq_true Tryd.call34, eq_true Tryd.call82, eq_true Tryd.call83, tr6, tr8, tr9, tr12, tr13, tr16, tr17, tr27, tr28, tr33, tr38, tr39, tr40, tr41, tr42, tr43, tr46, tr52, tr57, tr58, tr59, tr67, tr68, tr70, tr71, tr73, tr90, tr105, tr106, tr107, tr108, tr110, tr121, tr123, tr124, tr127, tr130, tr139⟩
theorem tf48 : (CallT Tryd.prog 50 = True) ∧ (CallT Tryd.prog 57 = True) ∧ (kdT Tryd.prog 3 = some 0) := ⟨eq_true Tryd.call50, eq_true Tryd.call57, tr27⟩
theorem tf49 : (CallT Tryd.prog 84 = True) ∧ (CallT Tryd.prog 85 = True) ∧ (kdT Tryd.prog 3 = some 0) ∧ (ldT Tryd.prog 22 = some none) ∧ (ldT Tryd.prog 30 = some none) ∧ (ldT Tryd.prog 62 = some none) ∧ (szT Tryd.prog 22 = some 1) ∧ (szT Tryd.prog 30 = some 1) ∧ (zeroT Tryd.prog 22 = some [.slice none 0 0]) ∧ (zeroT Tryd.prog 30 = some [.int .i64 0]) := ⟨eq_true Tryd.call84, eq_true Tryd.call85, tr27, tr38, tr44, tr49, tr116, tr122, tr135, tr138⟩
theorem tf50 : (CallT Tryd.prog 86 = True) ∧ (CallT Tryd.prog 87 = True) ∧ (CallT Tryd.prog 88 = True) ∧ (CallT Tryd.prog 89 = True) ∧ (arT Tryd.prog 22 = none) ∧ (arT Tryd.prog 88 = none) ∧ (elT Tryd.prog 22 = some (3, 1, [.int .i64 0], 8)) ∧ (kdT Tryd.prog 3 = some 0) ∧ (ldT Tryd.prog 22 = some none) ∧ (ldT Tryd.prog 3 = some none) ∧ (ldT Tryd.prog 88 = some none) ∧ (offT Tryd.prog 110 0 = some 0) ∧ (offT Tryd.prog 110 1 = some 8) ∧ (offT Tryd.prog 28 2 = some 6) ∧ (slT Tryd.prog 22 = some (3, 1)) ∧ (slT Tryd.prog 88 = some (22, 1)) := ⟨eq_true Tryd.call86, eq_true Tryd.call87, eq_true Tryd.call88, eq_true Tryd.call89, tr6, tr10, tr13, tr27, tr38, tr43, tr52, tr56, tr57, tr72, tr105, tr109⟩
theorem tf51 : True := trivial
theorem tf52 : (elT Tryd.prog 22 = some (3, 1, [.int .i64 0], 8)) ∧ (elT Tryd.prog 23 = some (58, 2, [.int .i64 0, .int .i64 0], 16)) ∧ (ldT Tryd.prog 22 = some none) ∧ (ldT Tryd.prog 23 = some none) ∧ (ldT Tryd.prog 25 = some (some 5)) ∧ (offT Tryd.prog 25 2 = some 2) ∧ (offT Tryd.prog 25 3 = some 3) ∧ (offT Tryd.prog 25 4 = some 4) ∧ (szT Tryd.prog 22 = some 1) ∧ (szT Tryd.prog 23 = some 1) ∧ (szT Tryd.prog 25 = some 5) ∧ (zeroT Tryd.prog 25 = some [.int .i64 0, .int .i64 0, .slice none 0 0, .slice none 0 0, .slice none 0 0]) := ⟨tr13, tr14, tr38, tr39, tr40, tr67, tr68, tr69, tr116, tr117, tr118, tr136⟩
theorem tf57 : (CallT Tryd.prog 93 = True) := eq_true Tryd.call93
theorem tf59 : (arT Tryd.prog 26 = none) ∧ (ldT Tryd.prog 26 = some none) ∧ (ldT Tryd.prog 3 = some none) ∧ (ldT Tryd.prog 4 = some none) ∧ (ldT Tryd.prog 47 = some (some 9)) ∧ (offT Tryd.prog 110 0 = some 0) ∧ (offT Tryd.prog 28 3 = some 7) ∧ (offT Tryd.prog 47 7 = some 7) ∧ (offT Tryd.prog 47 8 = some 8) ∧ (slT Tryd.prog 26 = some (47, 9)) ∧ (szT Tryd.prog 47 = some 9) ∧ (zeroT Tryd.prog 47 = some [.int .i64 0, .int .i64 0, .int .i64 0, .int .i64 0, .int .i64 0, .int .i64 0, .int .i64 0, .bool false, .int .i64 0]) := ⟨tr8, tr41, tr43, tr45, tr46, tr56, tr73, tr81, tr82, tr107, tr124, tr139⟩
theorem tf60 : (CallT Tryd.prog 67 = True) ∧ (CallT Tryd.prog 90 = True) ∧ (CallT Tryd.prog 94 = True) ∧ (arT Tryd.prog 22 = none) ∧ (arT Tryd.prog 88 = none) ∧ (elT Tryd.prog 22 = some (3, 1, [.int .i64 0], 8)) ∧ (kdT Tryd.prog 3 = some 0) ∧ (ldT Tryd.prog 22 = some none) ∧ (ldT Tryd.prog 25 = some (some 5)) ∧ (ldT Tryd.prog 28 = some (some 8)) ∧ (ldT Tryd.prog 3 = some none) ∧ (offT Tryd.prog 28 0 = some 0) ∧ (offT Tryd.prog 28 2 = some 6) ∧ (slT Tryd.prog 22 = some (3, 1)) ∧ (slT Tryd.prog 88 = some (22, 1)) := ⟨eq_true Tryd.call67, eq_true Tryd.call90, eq_true Tryd.call94, tr6, tr10, tr13, tr27, tr38, tr40, tr42, tr43, tr70, tr72, tr105, tr109⟩
theorem tf61 : (arT Tryd.prog 84 = none) ∧ (elT Tryd.prog 84 = some (4, 1, [.bool false], 1)) ∧ (kdT Tryd.prog 3 = some 0) ∧ (ldT Tryd.prog 26 = some none) ∧ (offT Tryd.prog 28 3 = some 7) ∧ (slT Tryd.prog 26 = some (47, 9)) ∧ (slT Tryd.prog 84 = some (4, 1)) ∧ (szT Tryd.prog 4 = some 1) := ⟨tr9, tr16, tr27, tr41, tr73, tr107, tr108, tr123⟩
theorem tf63 : (kdT Tryd.prog 3 = some 0) := tr27
theorem tf67 : (CallT Tryd.prog 79 = True) ∧ (CallT Tryd.prog 95 = True) ∧ (elT Tryd.prog 88 = some (22, 1, [.slice none 0 0], 24)) ∧ (kdT Tryd.prog 3 = some 0) ∧ (ldT Tryd.prog 25 = some (some 5)) := ⟨eq_true Tryd.call79, eq_true Tryd.call95, tr17, tr27, tr40⟩
theorem tf68 : (CallT Tryd.prog 100 = True) ∧ (CallT Tryd.prog 101 = True) ∧ (CallT Tryd.prog 96 = True) ∧ (CallT Tryd.prog 97 = True) ∧ (CallT Tryd.prog 98 = True) ∧ (CallT Tryd.prog 99 = True) ∧ (kdT Tryd.prog 3 = some 0) ∧ (ldT Tryd.prog 22 = some none) ∧ (ldT Tryd.prog 23 = some none) ∧ (ldT Tryd.prog 3 = some none) ∧ (offT Tryd.prog 25 0 = some 0) ∧ (offT Tryd.prog 25 1 = some 1) ∧ (offT Tryd.prog 25 2 = some 2) ∧ (offT Tryd.prog 25 3 = some 3) ∧ (offT Tryd.prog 25 4 = some 4) ∧ (slT Tryd.prog 22 = some (3, 1)) ∧ (slT Tryd.prog 23 = some (58, 2)) := ⟨eq_true Tryd.call100, eq_true Tryd.call101, eq_true Tryd.call96, eq_true Tryd.call97, eq_true Tryd.call98, eq_true Tryd.call99, tr27, tr38, tr39, tr43, tr65, tr66, tr67, tr68, tr69, tr105, tr106⟩
theorem tf69 : (CallT Tryd.prog 102 = True) ∧ (CallT Tryd.prog 103 = True) ∧ (CallT Tryd.prog 104 = True) ∧ (CallT Tryd.prog 63 = True) ∧ (arT Tryd.prog 22 = none) ∧ (elT Tryd.prog 22 = some (3, 1, [.int .i64 0], 8)) ∧ (kdT Tryd.prog 3 = some 0) ∧ (ldT Tryd.prog 129 = some (some 2)) ∧ (ldT Tryd.prog 3 = some none) ∧ (ldT Tryd.prog 47 = some (some 9)) ∧ (offT Tryd.prog 47 1 = some 1) ∧ (offT Tryd.prog 47 2 = some 2) ∧ (offT Tryd.prog 47 3 = some 3) ∧ (offT Tryd.prog 47 4 = some 4) ∧ (offT Tryd.prog 47 5 = some 5) ∧ (offT Tryd.prog 47 6 = some 6) ∧ (placesT Tryd.prog 129 = some [(0, 1), (1, 1)]) ∧ (slT Tryd.prog 22 = some (3, 1)) ∧ (szT Tryd.prog 129 = some 2) ∧ (zeroT Tryd.prog 129 = some [.int .i64 0, .int .i64 0]) := ⟨eq_true Tryd.call102, eq_true Tryd.call103, eq_true Tryd.call104, eq_true Tryd.call63, tr6, tr13, tr27, tr34, tr43, tr46, tr75, tr76, tr77, tr78, tr79, tr80, tr91, tr105, tr111, tr131⟩
theorem tf70 : (CallT Tryd.prog 63 = True) ∧ (kdT Tryd.prog 3 = some 0) ∧ (ldT Tryd.prog 3 = some none) ∧ (ldT Tryd.prog 4 = some none) ∧ (offT Tryd.prog 47 7 = some 7) ∧ (offT Tryd.prog 47 8 = some 8) := ⟨eq_true Tryd.call63, tr27, tr43, tr45, tr81, tr82⟩
theorem tf71 : (CallT Tryd.prog 105 = True) ∧ (arT Tryd.prog 23 = none) ∧ (kdT Tryd.prog 3 = some 0) ∧ (ldT Tryd.prog 23 = some none) ∧ (ldT Tryd.prog 25 = some (some 5)) ∧ (ldT Tryd.prog 3 = some none) ∧ (offT Tryd.prog 25 3 = some 3) ∧ (offT Tryd.prog 28 0 = some 0) ∧ (offT Tryd.prog 28 1 = some 5) ∧ (offT Tryd.prog 58 1 = some 1) ∧ (slT Tryd.prog 23 = some (58, 2)) := ⟨eq_true Tryd.call105, tr7, tr27, tr39, tr40, tr43, tr68, tr70, tr71, tr84, tr106⟩
theorem tf72 : (CallT Tryd.prog 106 = True) ∧ (CallT Tryd.prog 44 = True) ∧ (arT Tryd.prog 22 = none) ∧ (arT Tryd.prog 88 = none) ∧ (kdT Tryd.prog 3 = some 0) ∧ (ldT Tryd.prog 22 = some none) ∧ (ldT Tryd.prog 25 = some (some 5)) ∧ (ldT Tryd.prog 3 = some none) ∧ (ldT Tryd.prog 47 = some (some 9)) ∧ (offT Tryd.prog 25 0 = some 0) ∧ (offT Tryd.prog 47 1 = some 1) ∧ (offT Tryd.prog 47 2 = some 2) ∧ (offT Tryd.prog 47 3 = some 3) ∧ (offT Tryd.prog 47 4 = some 4) ∧ (offT Tryd.prog 47 5 = some 5) ∧ (offT Tryd.prog 47 6 = some 6) ∧ (slT Tryd.prog 22 = some (3, 1)) ∧ (slT Tryd.prog 88 = some (22, 1)) := ⟨eq_true Tryd.call106, eq_true Tryd.call44, tr6, tr10, tr27, tr38, tr40, tr43, tr46, tr65, tr75, tr76, tr77, tr78, tr79, tr80, tr105, tr109⟩
theorem tf73 : (CallT Tryd.prog 100 = True) ∧ (CallT Tryd.prog 107 = True) ∧ (CallT Tryd.prog 108 = True) ∧ (CallT Tryd.prog 109 = True) ∧ (CallT Tryd.prog 68 = True) ∧ (kdT Tryd.prog 30 = some 0) ∧ (ldT Tryd.prog 22 = some none) ∧ (ldT Tryd.prog 25 = some (some 5)) ∧ (ldT Tryd.prog 94 = some (some 5)) ∧ (offT Tryd.prog 98 0 = some 0) ∧ (offT Tryd.prog 98 1 = some 1) ∧ (offT Tryd.prog 98 2 = some 2) ∧ (placesT Tryd.prog 94 = some [(0, 5)]) ∧ (szT Tryd.prog 94 = some 5) ∧ (zeroT Tryd.prog 94 = some [.int .i64 0, .int .i64 0, .slice none 0 0, .slice none 0 0, .slice none 0 0]) := ⟨eq_true Tryd.call100, eq_true Tryd.call107, eq_true Tryd.call108, eq_true Tryd.call109, eq_true Tryd.call68, tr28, tr38, tr40, tr53, tr86, tr87, tr88, tr97, tr128, tr142⟩
theorem tf74 : (arT Tryd.prog 22 = none) ∧ (arT Tryd.prog 23 = none) ∧ (kdT Tryd.prog 3 = some 0) ∧ (ldT Tryd.prog 22 = some none) ∧ (ldT Tryd.prog 23 = some none) ∧ (ldT Tryd.prog 3 = some none) ∧ (ldT Tryd.prog 58 = some (some 2)) ∧ (offT Tryd.prog 25 2 = some 2) ∧ (offT Tryd.prog 25 3 = some 3) ∧ (offT Tryd.prog 25 4 = some 4) ∧ (offT Tryd.prog 58 0 = some 0) ∧ (offT Tryd.prog 58 1 = some 1) ∧ (offT Tryd.prog 94 0 = some 0) ∧ (placesT Tryd.prog 58 = some [(0, 1), (1, 1)]) ∧ (slT Tryd.prog 22 = some (3, 1)) ∧ (slT Tryd.prog 23 = some (58, 2)) ∧ (szT Tryd.prog 58 = some 2) ∧ (zeroT Tryd.prog 58 = some [.int .i64 0, .int .i64 0]) := ⟨tr6, tr7, tr27, tr38, tr39, tr43, tr48, tr67, tr68, tr69, tr83, tr84, tr85, tr96, tr105, tr106, tr125, tr140⟩
theorem tf75 : (kdT Tryd.prog 3 = some 0) := tr27
theorem tf76 : (CallT Tryd.prog 110 = True) ∧ (CallT Tryd.prog 111 = True) ∧ (CallT Tryd.prog 76 = True) ∧ (arT Tryd.prog 22 = none) ∧ (elT Tryd.prog 22 = some (3, 1, [.int .i64 0], 8)) ∧ (kdT Tryd.prog 3 = some 0) ∧ (ldT Tryd.prog 26 = some none) ∧ (ldT Tryd.prog 3 = some none) ∧ (ldT Tryd.prog 67 = some none) ∧ (offT Tryd.prog 103 0 = some 0) ∧ (offT Tryd.prog 110 0 = some 0) ∧ (offT Tryd.prog 28 3 = some 7) ∧ (slT Tryd.prog 22 = some (3, 1)) ∧ (slT Tryd.prog 26 = some (47, 9)) ∧ (szT Tryd.prog 3 = some 1) := ⟨eq_true Tryd.call110, eq_true Tryd.call111, eq_true Tryd.call76, tr6, tr13, tr27, tr41, tr43, tr50, tr54, tr56, tr73, tr105, tr107, tr121⟩
theorem tf77 : (CallT Tryd.prog 77 = True) ∧ (CallT Tryd.prog 78 = True) ∧ (elT Tryd.prog 22 = some (3, 1, [.int .i64 0], 8)) ∧ (kdT Tryd.prog 3 = some 0) ∧ (ldT Tryd.prog 26 = some none) ∧ (ldT Tryd.prog 28 = some (some 8)) ∧ (offT Tryd.prog 28 3 = some 7) ∧ (slT Tryd.prog 22 = some (3, 1)) ∧ (slT Tryd.prog 26 = some (47, 9)) := ⟨eq_true Tryd.call77, eq_true Tryd.call78, tr13, tr27, tr41, tr42, tr73, tr105, tr107⟩
theorem tf78 : (CallT Tryd.prog 60 = True) ∧ (CallT Tryd.prog 61 = True) ∧ (arT Tryd.prog 22 = none) ∧ (arT Tryd.prog 84 = none) ∧ (elT Tryd.prog 84 = some (4, 1, [.bool false], 1)) ∧ (kdT Tryd.prog 3 = some 0) ∧ (ldT Tryd.prog 26 = some none) ∧ (ldT Tryd.prog 28 = some (some 8)) ∧ (ldT Tryd.prog 3 = some none) ∧ (offT Tryd.prog 28 3 = some 7) ∧ (slT Tryd.prog 22 = some (3, 1)) ∧ (slT Tryd.prog 26 = some (47, 9)) ∧ (slT Tryd.prog 84 = some (4, 1)) ∧ (szT Tryd.prog 4 = some 1) := ⟨eq_true Tryd.call60, eq_true Tryd.call61, tr6, tr9, tr16, tr27, tr41, tr42, tr43, tr73, tr105, tr107, tr108, tr123⟩
theorem tf79 : (kdT Tryd.prog 3 = some 0) ∧ (ldT Tryd.prog 3 = some none) ∧ (offT Tryd.prog 25 0 = some 0) ∧ (offT Tryd.prog 25 1 = some 1) := ⟨tr27, tr43, tr65, tr66⟩
theorem tf80 : (CallT Tryd.prog 112 = True) ∧ (CallT Tryd.prog 44 = True) ∧ (kdT Tryd.prog 3 = some 0) ∧ (ldT Tryd.prog 3 = some none) ∧ (offT Tryd.prog 47 3 = some 3) ∧ (offT Tryd.prog 47 4 = some 4) ∧ (offT Tryd.prog 47 5 = some 5) ∧ (offT Tryd.prog 47 6 = some 6) := ⟨eq_true Tryd.call112, eq_true Tryd.call44, tr27, tr43, tr77, tr78, tr79, tr80⟩
theorem tf81 : (elT Tryd.prog 22 = some (3, 1, [.int .i64 0], 8)) ∧ (elT Tryd.prog 23 = some (58, 2, [.int .i64 0, .int .i64 0], 16)) ∧ (ldT Tryd.prog 25 = some (some 5)) ∧ (placesT Tryd.prog 25 = some [(0, 1), (1, 1), (2, 1), (3, 1), (4, 1)]) ∧ (placesT Tryd.prog 58 = some [(0, 1), (1, 1)]) ∧ (szT Tryd.prog 25 = some 5) ∧ (zeroT Tryd.prog 25 = some [.int .i64 0, .int .i64 0, .slice none 0 0, .slice none 0 0, .slice none 0 0]) ∧ (zeroT Tryd.prog 58 = some [.int .i64 0, .int .i64 0]) := ⟨tr13, tr14, tr40, tr93, tr96, tr118, tr136, tr140⟩
theorem tf82 : (CallT Tryd.prog 113 = True) ∧ (CallT Tryd.prog 114 = True) ∧ (CallT Tryd.prog 73 = True) ∧ (arT Tryd.prog 22 = none) ∧ (elT Tryd.prog 22 = some (3, 1, [.int .i64 0], 8)) ∧ (kdT Tryd.prog 3 = some 0) ∧ (kdT Tryd.prog 30 = some 0) ∧ (ldT Tryd.prog 22 = some none) ∧ (ldT Tryd.prog 25 = some (some 5)) ∧ (ldT Tryd.prog 3 = some none) ∧ (ldT Tryd.prog 94 = some (some 5)) ∧ (placesT Tryd.prog 98 = some [(0, 1), (1, 1), (2, 1)]) ∧ (slT Tryd.prog 22 = some (3, 1)) ∧ (szT Tryd.prog 22 = some 1) ∧ (szT Tryd.prog 3 = some 1) ∧ (szT Tryd.prog 94 = some 5) ∧ (zeroT Tryd.prog 22 = some [.slice none 0 0]) ∧ (zeroT Tryd.prog 94 = some [.int .i64 0, .int .i64 0, .slice none 0 0, .slice none 0 0, .slice none 0 0]) ∧ (zeroT Tryd.prog 98 = some [.slice none 0 0, .slice none 0 0, .slice none 0 0]) := ⟨eq_true Tryd.call113, eq_true Tryd.call114, eq_true Tryd.call73, tr6, tr13, tr27, tr28, tr38, tr40, tr43, tr53, tr98, tr105, tr116, tr121, tr128, tr135, tr142, tr143⟩
theorem tf83 : (CallT Tryd.prog 102 = True) ∧ (CallT Tryd.prog 103 = True) ∧ (CallT Tryd.prog 104 = True) ∧ (CallT Tryd.prog 115 = True) ∧ (CallT Tryd.prog 63 = True) ∧ (arT Tryd.prog 22 = none) ∧ (arT Tryd.prog 88 = none) ∧ (kdT Tryd.prog 3 = some 0) ∧ (ldT Tryd.prog 129 = some (some 2)) ∧ (ldT Tryd.prog 22 = some none) ∧ (ldT Tryd.prog 3 = some none) ∧ (ldT Tryd.prog 47 = some (some 9)) ∧ (ldT Tryd.prog 88 = some none) ∧ (offT Tryd.prog 110 0 = some 0) ∧ (offT Tryd.prog 110 1 = some 8) ∧ (offT Tryd.prog 129 0 = some 0) ∧ (offT Tryd.prog 129 1 = some 1) ∧ (offT Tryd.prog 25 0 = some 0) ∧ (offT Tryd.prog 28 0 = some 0) ∧ (offT Tryd.prog 47 1 = some 1) ∧ (offT Tryd.prog 47 2 = some 2) ∧ (offT Tryd.prog 47 3 = some 3) ∧ (offT Tryd.prog 47 4 = some 4) ∧ (offT Tryd.prog 47 5 = some 5) ∧ (offT Tryd.prog 47 6 = some 6) ∧ (placesT Tryd.prog 129 = some [(0, 1), (1, 1)]) ∧ (slT Tryd.prog 22 = some (3, 1)) ∧ (slT Tryd.prog 88 = some (22, 1)) ∧ (szT Tryd.prog 129 = some 2) ∧ (zeroT Tryd.prog 129 = some [.int .i64 0, .int .i64 0]) := ⟨eq_true Tryd.call102, eq_true Tryd.call103, eq_true Tryd.call104, eq_true Tryd.call115, eq_true Tryd.call63, tr6, tr10, tr27, tr34, tr38, tr43, tr46, tr52, tr56, tr57, tr60, tr61, tr65, tr70, tr75, tr76, tr77, tr78, tr79, tr80, tr91, tr105, tr109, tr111, tr131⟩
theorem tf84 : (CallT Tryd.prog 116 = True) ∧ (CallT Tryd.prog 117 = True) ∧ (szT Tryd.prog 138 = some 1) ∧ (zeroT Tryd.prog 138 = some [.nilFunc]) := ⟨eq_true Tryd.call116, eq_true Tryd.call117, tr112, tr132⟩
theorem tf85 : (CallT Tryd.prog 118 = True) ∧ (elT Tryd.prog 22 = some (3, 1, [.int .i64 0], 8)) ∧ (intT Tryd.prog 3 = some .i64) ∧ (intT Tryd.prog 37 = some .u64) ∧ (kdT Tryd.prog 3 = some 0) := ⟨eq_true Tryd.call118, tr13, tr20, tr21, tr27⟩
theorem tf86 : (CallT Tryd.prog 119 = True) ∧ (arT Tryd.prog 108 = none) ∧ (arT Tryd.prog 22 = none) ∧ (arT Tryd.prog 26 = none) ∧ (arT Tryd.prog 84 = none) ∧ (arT Tryd.prog 88 = none) ∧ (elT Tryd.prog 22 = some (3, 1, [.int .i64 0], 8)) ∧ (elT Tryd.prog 88 = some (22, 1, [.slice none 0 0], 24)) ∧ (kdT Tryd.prog 3 = some 0) ∧ (ldT Tryd.prog 108 = some none) ∧ (ldT Tryd.prog 22 = some none) ∧ (ldT Tryd.prog 26 = some none) ∧ (ldT Tryd.prog 3 = some none) ∧ (ldT Tryd.prog 4 = some none) ∧ (ldT Tryd.prog 47 = some (some 9)) ∧ (ldT Tryd.prog 84 = some none) ∧ (offT Tryd.prog 110 0 = some 0) ∧ (offT Tryd.prog 110 2 = some 9) ∧ (offT Tryd.prog 110 3 = some 10) ∧ (offT Tryd.prog 28 3 = some 7) ∧ (offT Tryd.prog 47 0 = some 0) ∧ (slT Tryd.prog 108 = some (84, 1)) ∧ (slT Tryd.prog 22 = some (3, 1)) ∧ (slT Tryd.prog 26 = some (47, 9)) ∧ (slT Tryd.prog 84 = some (4, 1)) ∧ (slT Tryd.prog 88 = some (22, 1)) ∧ (szT Tryd.prog 3 = some 1) ∧ (szT Tryd.prog 47 = some 9) ∧ (zeroT Tryd.prog 47 = some [.int .i64 0, .int .i64 0, .int .i64 0, .int .i64 0, .int .i64 0, .int .i64 0, .int .i64 0, .bool false, .int .i64 0]) := ⟨eq_true Tryd.call119, tr1, tr6, tr8, tr9, tr10, tr13, tr17, tr27, tr33, tr38, tr41, tr43, tr45, tr46, tr51, tr56, tr58, tr59, tr73, tr74, tr100, tr105, tr107, tr108, tr109, tr121, tr124, tr139⟩
theorem tf87 : (CallT Tryd.prog 120 = True) ∧ (CallT Tryd.prog 91 = True) ∧ (CallT Tryd.prog 92 = True) ∧ (arT Tryd.prog 88 = none) ∧ (kdT Tryd.prog 3 = some 0) ∧ (ldT Tryd.prog 22 = some none) ∧ (slT Tryd.prog 88 = some (22, 1)) ∧ (szT Tryd.prog 22 = some 1) := ⟨eq_true Tryd.call120, eq_true Tryd.call91, eq_true Tryd.call92, tr10, tr27, tr38, tr109, tr116⟩
theorem tf88 : (arT Tryd.prog 22 = none) ∧ (kdT Tryd.prog 3 = some 0) ∧ (ldT Tryd.prog 3 = some none) ∧ (slT Tryd.prog 22 = some (3, 1)) := ⟨tr6, tr27, tr43, tr105⟩
theorem tf89 : (arT Tryd.prog 22 = none) ∧ (kdT Tryd.prog 3 = some 0) ∧ (ldT Tryd.prog 3 = some none) ∧ (slT Tryd.prog 22 = some (3, 1)) := ⟨tr6, tr27, tr43, tr105⟩
theorem tf90 : (CallT Tryd.prog 94 = True) ∧ (arT Tryd.prog 22 = none) ∧ (arT Tryd.prog 88 = none) ∧ (elT Tryd.prog 22 = some (3, 1, [.int .i64 0], 8)) ∧ (elT Tryd.prog 88 = some (22, 1, [.slice none 0 0], 24)) ∧ (kdT Tryd.prog 3 = some 0) ∧ (ldT Tryd.prog 22 = some none) ∧ (ldT Tryd.prog 23 = some none) ∧ (ldT Tryd.prog 28 = some (some 8)) ∧ (ldT Tryd.prog 3 = some none) ∧ (offT Tryd.prog 25 3 = some 3) ∧ (offT Tryd.prog 28 0 = some 0) ∧ (offT Tryd.prog 28 2 = some 6) ∧ (slT Tryd.prog 22 = some (3, 1)) ∧ (slT Tryd.prog 23 = some (58, 2)) ∧ (slT Tryd.prog 88 = some (22, 1)) ∧ (szT Tryd.prog 22 = some 1) ∧ (szT Tryd.prog 3 = some 1) := ⟨eq_true Tryd.call94, tr6, tr10, tr13, tr17, tr27, tr38, tr39, tr42, tr43, tr68, tr70, tr72, tr105, tr106, tr109, tr116, tr121⟩
theorem tf91 : (CallT Tryd.prog 119 = True) ∧ (arT Tryd.prog 22 = none) ∧ (arT Tryd.prog 88 = none) ∧ (elT Tryd.prog 22 = some (3, 1, [.int .i64 0], 8)) ∧ (kdT Tryd.prog 3 = some 0) ∧ (ldT Tryd.prog 22 = some none) ∧ (ldT Tryd.prog 3 = some none) ∧ (ldT Tryd.prog 88 = some none) ∧ (offT Tryd.prog 110 0 = some 0) ∧ (offT Tryd.prog 110 1 = some 8) ∧ (offT Tryd.prog 28 2 = some 6) ∧ (slT Tryd.prog 22 = some (3, 1)) ∧ (slT Tryd.prog 88 = some (22, 1)) ∧ (szT Tryd.prog 3 = some 1) := ⟨eq_true Tryd.call119, tr6, tr10, tr13, tr27, tr38, tr43, tr52, tr56, tr57, tr72, tr105, tr109, tr121⟩
theorem tf92 : (arT Tryd.prog 22 = none) ∧ (elT Tryd.prog 22 = some (3, 1, [.int .i64 0], 8)) ∧ (kdT Tryd.prog 3 = some 0) ∧ (ldT Tryd.prog 3 = some none) ∧ (slT Tryd.prog 22 = some (3, 1)) ∧ (szT Tryd.prog 3 = some 1) := ⟨tr6, tr13, tr27, tr43, tr105, tr121⟩
theorem tf93 : (kdT Tryd.prog 3 = some 0) ∧ (ldT Tryd.prog 3 = some none) := ⟨tr27, tr43⟩
theorem tf94 : (CallT Tryd.prog 71 = True) ∧ (CallT Tryd.prog 72 = True) ∧ (arT Tryd.prog 26 = none) ∧ (arT Tryd.prog 84 = none) ∧ (kdT Tryd.prog 3 = some 0) ∧ (ldT Tryd.prog 25 = some (some 5)) ∧ (ldT Tryd.prog 26 = some none) ∧ (ldT Tryd.prog 28 = some (some 8)) ∧ (ldT Tryd.prog 3 = some none) ∧ (ldT Tryd.prog 4 = some none) ∧ (ldT Tryd.prog 47 = some (some 9)) ∧ (offT Tryd.prog 28 0 = some 0) ∧ (offT Tryd.prog 28 3 = some 7) ∧ (offT Tryd.prog 47 0 = some 0) ∧ (offT Tryd.prog 47 8 = some 8) ∧ (slT Tryd.prog 26 = some (47, 9)) ∧ (slT Tryd.prog 84 = some (4, 1)) ∧ (szT Tryd.prog 47 = some 9) ∧ (zeroT Tryd.prog 47 = some [.int .i64 0, .int .i64 0, .int .i64 0, .int .i64 0, .int .i64 0, .int .i64 0, .int .i64 0, .bool false, .int .i64 0]) := ⟨eq_true Tryd.call71, eq_true Tryd.call72, tr8, tr9, tr27, tr40, tr41, tr42, tr43, tr45, tr46, tr70, tr73, tr74, tr82, tr107, tr108, tr124, tr139⟩
theorem tf95 : (CallT Tryd.prog 121 = True) ∧ (CallT Tryd.prog 79 = True) ∧ (arT Tryd.prog 22 = none) ∧ (elT Tryd.prog 22 = some (3, 1, [.int .i64 0], 8)) ∧ (kdT Tryd.prog 3 = some 0) ∧ (ldT Tryd.prog 25 = some (some 5)) ∧ (ldT Tryd.prog 3 = some none) ∧ (slT Tryd.prog 22 = some (3, 1)) ∧ (szT Tryd.prog 3 = some 1) := ⟨eq_true Tryd.call121, eq_true Tryd.call79, tr6, tr13, tr27, tr40, tr43, tr105, tr121⟩
theorem tf96 : (kdT Tryd.prog 3 = some 0) := tr27
theorem tf97 : (CallT Tryd.prog 96 = True) := eq_true Tryd.call96
theorem tf98 : (kdT Tryd.prog 3 = some 0) ∧ (ldT Tryd.prog 3 = some none) ∧ (offT Tryd.prog 58 0 = some 0) ∧ (offT Tryd.prog 58 1 = some 1) := ⟨tr27, tr43, tr83, tr84⟩
theorem tf99 : (CallT Tryd.prog 96 = True) := eq_true Tryd.call96
theorem tf100 : (CallT Tryd.prog 122 = True) ∧ (kdT Tryd.prog 3 = some 0) := ⟨eq_true Tryd.call122, tr27⟩
theorem tf101 : (CallT Tryd.prog 123 = True) ∧ (kdT Tryd.prog 3 = some 0) := ⟨eq_true Tryd.call123, tr27⟩
theorem tf102 : (ldT Tryd.prog 129 = some (some 2)) ∧ (ldT Tryd.prog 3 = some none) ∧ (offT Tryd.prog 47 3 = some 3) ∧ (offT Tryd.prog 47 4 = some 4) ∧ (offT Tryd.prog 47 5 = some 5) ∧ (offT Tryd.prog 47 6 = some 6) ∧ (placesT Tryd.prog 129 = some [(0, 1), (1, 1)]) ∧ (szT Tryd.prog 129 = some 2) ∧ (zeroT Tryd.prog 129 = some [.int .i64 0, .int .i64 0]) := ⟨tr34, tr43, tr77, tr78, tr79, tr80, tr91, tr111, tr131⟩
theorem tf103 : (kdT Tryd.prog 3 = some 0) ∧ (ldT Tryd.prog 3 = some none) ∧ (offT Tryd.prog 129 0 = some 0) ∧ (offT Tryd.prog 129 1 = some 1) := ⟨tr27, tr43, tr60, tr61⟩
theorem tf104 : (kdT Tryd.prog 3 = some 0) ∧ (ldT Tryd.prog 3 = some none) ∧ (offT Tryd.prog 129 0 = some 0) ∧ (offT Tryd.prog 129 1 = some 1) := ⟨tr27, tr43, tr60, tr61⟩
theorem tf105 : (arT Tryd.prog 22 = none) ∧ (kdT Tryd.prog 3 = some 0) ∧ (ldT Tryd.prog 22 = some none) ∧ (ldT Tryd.prog 3 = some none) ∧ (offT Tryd.prog 25 2 = some 2) ∧ (offT Tryd.prog 25 4 = some 4) ∧ (slT Tryd.prog 22 = some (3, 1)) := ⟨tr6, tr27, tr38, tr43, tr67, tr69, tr105⟩
theorem tf106 : (CallT Tryd.prog 112 = True) ∧ (CallT Tryd.prog 124 = True) ∧ (kdT Tryd.prog 3 = some 0) ∧ (ldT Tryd.prog 25 = some (some 5)) ∧ (ldT Tryd.prog 3 = some none) ∧ (offT Tryd.prog 47 2 = some 2) ∧ (offT Tryd.prog 47 3 = some 3) ∧ (offT Tryd.prog 47 4 = some 4) ∧ (offT Tryd.prog 47 5 = some 5) ∧ (offT Tryd.prog 47 6 = some 6) := ⟨eq_true Tryd.call112, eq_true Tryd.call124, tr27, tr40, tr43, tr76, tr77, tr78, tr79, tr80⟩
theorem tf107 : (CallT Tryd.prog 96 = True) ∧ (kdT Tryd.prog 3 = some 0) ∧ (ldT Tryd.prog 22 = some none) ∧ (offT Tryd.prog 25 2 = some 2) ∧ (slT Tryd.prog 22 = some (3, 1)) := ⟨eq_true Tryd.call96, tr27, tr38, tr67, tr105⟩
theorem tf108 : (CallT Tryd.prog 96 = True) ∧ (kdT Tryd.prog 3 = some 0) ∧ (ldT Tryd.prog 23 = some none) ∧ (offT Tryd.prog 25 3 = some 3) ∧ (slT Tryd.prog 23 = some (58, 2)) := ⟨eq_true Tryd.call96, tr27, tr39, tr68, tr106⟩
theorem tf109 : (CallT Tryd.prog 96 = True) := eq_true Tryd.call96
theorem tf110 : (elT Tryd.prog 22 = some (3, 1, [.int .i64 0], 8)) ∧ (kdT Tryd.prog 22 = some 2) := ⟨tr13, tr26⟩
theorem tf111 : (CallT Tryd.prog 48 = True) ∧ (arT Tryd.prog 101 = none) ∧ (kdT Tryd.prog 146 = some 0) ∧ (ldT Tryd.prog 101 = some none) ∧ (ldT Tryd.prog 146 = some none) ∧ (ldT Tryd.prog 67 = some none) ∧ (offT Tryd.prog 103 0 = some 0) ∧ (offT Tryd.prog 103 1 = some 1) ∧ (slT Tryd.prog 101 = some (146, 1)) ∧ (szT Tryd.prog 146 = some 1) := ⟨eq_true Tryd.call48, tr0, tr23, tr32, tr36, tr50, tr54, tr55, tr99, tr113⟩
theorem tf112 : (kdT Tryd.prog 3 = some 0) := tr27
theorem tf113 : (CallT Tryd.prog 119 = True) ∧ (elT Tryd.prog 22 = some (3, 1, [.int .i64 0], 8)) ∧ (ldT Tryd.prog 22 = some none) ∧ (offT Tryd.prog 25 2 = some 2) ∧ (offT Tryd.prog 94 0 = some 0) ∧ (slT Tryd.prog 22 = some (3, 1)) := ⟨eq_true Tryd.call119, tr13, tr38, tr67, tr85, tr105⟩
theorem tf114 : (CallT Tryd.prog 125 = True) := eq_true Tryd.call125
theorem tf115 : (kdT Tryd.prog 3 = some 0) ∧ (ldT Tryd.prog 129 = some (some 2)) ∧ (ldT Tryd.prog 3 = some none) ∧ (offT Tryd.prog 110 0 = some 0) ∧ (offT Tryd.prog 25 0 = some 0) ∧ (offT Tryd.prog 28 0 = some 0) ∧ (placesT Tryd.prog 129 = some [(0, 1), (1, 1)]) ∧ (szT Tryd.prog 129 = some 2) ∧ (zeroT Tryd.prog 129 = some [.int .i64 0, .int .i64 0]) := ⟨tr27, tr34, tr43, tr56, tr65, tr70, tr91, tr111, tr131⟩
theorem tf116 : (kdT Tryd.prog 3 = some 0) ∧ (ldT Tryd.prog 138 = some none) ∧ (ldT Tryd.prog 3 = some none) := ⟨tr27, tr35, tr43⟩
theorem tf117 : (ldT Tryd.prog 138 = some none) ∧ (ldT Tryd.prog 3 = some none) := ⟨tr35, tr43⟩
theorem tf118 : (CallT Tryd.prog 127 = True) ∧ (CallT Tryd.prog 128 = True) ∧ (intT Tryd.prog 152 = some .u32) ∧ (intT Tryd.prog 37 = some .u64) := ⟨eq_true Tryd.call127, eq_true Tryd.call128, tr18, tr21⟩
theorem tf119 : (CallT Tryd.prog 129 = True) ∧ (elT Tryd.prog 22 = some (3, 1, [.int .i64 0], 8)) ∧ (intT Tryd.prog 3 = some .i64) ∧ (intT Tryd.prog 37 = some .u64) ∧ (kdT Tryd.prog 3 = some 0) ∧ (kdT Tryd.prog 37 = some 0) ∧ (slT Tryd.prog 22 = some (3, 1)) := ⟨eq_true Tryd.call129, tr13, tr20, tr21, tr27, tr29, tr105⟩
theorem tf120 : (elT Tryd.prog 88 = some (22, 1, [.slice none 0 0], 24)) ∧ (kdT Tryd.prog 88 = some 2) := ⟨tr17, tr31⟩
theorem tf121 : (CallT Tryd.prog 75 = True) ∧ (arT Tryd.prog 157 = some (6, 1, none)) ∧ (kdT Tryd.prog 3 = some 0) ∧ (ldT Tryd.prog 3 = some none) ∧ (offT Tryd.prog 25 0 = some 0) ∧ (offT Tryd.prog 25 1 = some 1) ∧ (placesT Tryd.prog 157 = some [(0, 1), (1, 1), (2, 1), (3, 1), (4, 1), (5, 1)]) ∧ (slT Tryd.prog 157 = none) ∧ (szT Tryd.prog 157 = some 6) ∧ (zeroT Tryd.prog 157 = some [.int .i64 0, .int .i64 0, .int .i64 0, .int .i64 0, .int .i64 0, .int .i64 0]) := ⟨eq_true Tryd.call75, tr3, tr27, tr43, tr65, tr66, tr92, tr102, tr115, tr134⟩
theorem tf122 : (arT Tryd.prog 22 = none) ∧ (kdT Tryd.prog 3 = some 0) ∧ (ldT Tryd.prog 3 = some none) ∧ (slT Tryd.prog 22 = some (3, 1)) := ⟨tr6, tr27, tr43, tr105⟩
theorem tf123 : (arT Tryd.prog 23 = none) ∧ (kdT Tryd.prog 3 = some 0) ∧ (ldT Tryd.prog 58 = some (some 2)) ∧ (slT Tryd.prog 23 = some (58, 2)) := ⟨tr7, tr27, tr48, tr106⟩
theorem tf124 : (kdT Tryd.prog 3 = some 0) ∧ (ldT Tryd.prog 3 = some none) ∧ (offT Tryd.prog 25 0 = some 0) := ⟨tr27, tr43, tr65⟩
theorem tf125 : (CallT Tryd.prog 126 = True) ∧ (kdT Tryd.prog 3 = some 0) ∧ (ldT Tryd.prog 3 = some none) ∧ (ldT Tryd.prog 94 = some (some 5)) := ⟨eq_true Tryd.call126, tr27, tr43, tr53⟩
theorem tf126 : (CallT Tryd.prog 96 = True) ∧ (arT Tryd.prog 149 = some (6, 3, some 3)) ∧ (kdT Tryd.prog 3 = some 0) ∧ (ldT Tryd.prog 148 = some (some 3)) ∧ (ldT Tryd.prog 3 = some none) ∧ (offT Tryd.prog 148 0 = some 0) ∧ (offT Tryd.prog 148 1 = some 1) ∧ (offT Tryd.prog 148 2 = some 2) ∧ (offT Tryd.prog 25 0 = some 0) ∧ (offT Tryd.prog 25 1 = some 1) ∧ (offT Tryd.prog 94 0 = some 0) ∧ (slT Tryd.prog 149 = none) ∧ (szT Tryd.prog 148 = some 3) ∧ (zeroT Tryd.prog 148 = some [.int .i64 0, .int .i64 0, .int .i64 0]) := ⟨eq_true Tryd.call96, tr2, tr27, tr37, tr43, tr62, tr63, tr64, tr65, tr66, tr85, tr101, tr114, tr133⟩
theorem tf128 : (arT Tryd.prog 159 = some (64, 1, none)) ∧ (intT Tryd.prog 3 = some .i64) ∧ (intT Tryd.prog 5 = some .u8) ∧ (kdT Tryd.prog 154 = some 0) ∧ (ldT Tryd.prog 5 = some none) ∧ (slT Tryd.prog 159 = none) := ⟨tr5, tr20, tr22, tr25, tr47, tr104⟩
theorem tf129 : (CallT Tryd.prog 130 = True) ∧ (CallT Tryd.prog 131 = True) ∧ (intT Tryd.prog 152 = some .u32) ∧ (intT Tryd.prog 37 = some .u64) := ⟨eq_true Tryd.call130, eq_true Tryd.call131, tr18, tr21⟩
theorem tf131 : (kdT Tryd.prog 154 = some 0) := tr25
theorem res9 : Tryd.f9.results.toList = [.tmp 2] := by kernel_rfl
theorem res10 : Tryd.f10.results.toList = [.tmp 4] := by kernel_rfl
theorem res13 : Tryd.f13.results.toList = [.tmp 2] := by kernel_rfl
theorem res14 : Tryd.f14.results.toList = [.tmp 2] := by kernel_rfl
theorem res15 : Tryd.f15.results.toList = [.tmp 0] := by kernel_rfl
theorem res16 : Tryd.f16.results.toList = [.tmp 2, .tmp 3] := by kernel_rfl
theorem res17 : Tryd.f17.results.toList = [.tmp 2, .tmp 3] := by kernel_rfl
theorem res20 : Tryd.f20.results.toList = [.cell 2 28] := by kernel_rfl
theorem res24 : Tryd.f24.results.toList = [.tmp 4] := by kernel_rfl
theorem res25 : Tryd.f25.results.toList = [.tmp 2, .tmp 3, .tmp 4] := by kernel_rfl
theorem res32 : Tryd.f32.results.toList = [.tmp 2] := by kernel_rfl
theorem res34 : Tryd.f34.results.toList = [.tmp 8, .tmp 9, .tmp 10] := by kernel_rfl
theorem res36 : Tryd.f36.results.toList = [.tmp 4] := by kernel_rfl
theorem res37 : Tryd.f37.results.toList = [.tmp 2, .tmp 3] := by kernel_rfl
theorem res38 : Tryd.f38.results.toList = [.tmp 2, .tmp 3] := by kernel_rfl
theorem res39 : Tryd.f39.results.toList = [.tmp 6] := by kernel_rfl
theorem res40 : Tryd.f40.results.toList = [.tmp 4] := by kernel_rfl
theorem res41 : Tryd.f41.results.toList = [.tmp 2] := by kernel_rfl
theorem res42 : Tryd.f42.results.toList = [.tmp 2] := by kernel_rfl
theorem res43 : Tryd.f43.results.toList = [.tmp 2] := by kernel_rfl
theorem res44 : Tryd.f44.results.toList = [.tmp 6] := by kernel_rfl
theorem res45 : Tryd.f45.results.toList = [.tmp 4] := by kernel_rfl
theorem res46 : Tryd.f46.results.toList = [.cell 0 28, .cell 1 47] := by kernel_rfl
theorem res47 : Tryd.f47.results.toList = [.tmp 2, .tmp 3] := by kernel_rfl
theorem res48 : Tryd.f48.results.toList = [.tmp 4] := by kernel_rfl
theorem res49 : Tryd.f49.results.toList = [.cell 4 22, .cell 5 30] := by kernel_rfl
theorem res50 : Tryd.f50.results.toList = [.tmp 4, .tmp 5] := by kernel_rfl
theorem res51 : Tryd.f51.results.toList = [.tmp 2] := by kernel_rfl
theorem res52 : Tryd.f52.results.toList = [.cell 2 25] := by kernel_rfl
theorem res57 : Tryd.f57.results.toList = [.tmp 2] := by kernel_rfl
theorem res59 : Tryd.f59.results.toList = [.tmp 4] := by kernel_rfl
theorem res60 : Tryd.f60.results.toList = [.tmp 6, .tmp 7] := by kernel_rfl
theorem res61 : Tryd.f61.results.toList = [.tmp 4] := by kernel_rfl
theorem res63 : Tryd.f63.results.toList = [.tmp 6] := by kernel_rfl
theorem res67 : Tryd.f67.results.toList = [.tmp 2] := by kernel_rfl
theorem res68 : Tryd.f68.results.toList = [.tmp 2] := by kernel_rfl
theorem res69 : Tryd.f69.results.toList = [.tmp 2] := by kernel_rfl
theorem res70 : Tryd.f70.results.toList = [.tmp 2] := by kernel_rfl
theorem res71 : Tryd.f71.results.toList = [.tmp 6] := by kernel_rfl
theorem res72 : Tryd.f72.results.toList = [.tmp 8] := by kernel_rfl
theorem res73 : Tryd.f73.results.toList = [.cell 4 94, .tmp 5] := by kernel_rfl
theorem res74 : Tryd.f74.results.toList = [.cell 6 58] := by kernel_rfl
theorem res75 : Tryd.f75.results.toList = [.tmp 6] := by kernel_rfl
theorem res76 : Tryd.f76.results.toList = [.tmp 8, .tmp 9] := by kernel_rfl
theorem res77 : Tryd.f77.results.toList = [.tmp 8, .tmp 9] := by kernel_rfl
theorem res78 : Tryd.f78.results.toList = [.tmp 6] := by kernel_rfl
theorem res79 : Tryd.f79.results.toList = [.tmp 2] := by kernel_rfl
theorem res80 : Tryd.f80.results.toList = [.tmp 2] := by kernel_rfl
theorem res81 : Tryd.f81.results.toList = [.cell 0 25] := by kernel_rfl
theorem res82 : Tryd.f82.results.toList = [.tmp 6, .tmp 7] := by kernel_rfl
theorem res83 : Tryd.f83.results.toList = [.tmp 6] := by kernel_rfl
theorem res84 : Tryd.f84.results.toList = [.tmp 4] := by kernel_rfl
theorem res85 : Tryd.f85.results.toList = [.tmp 2] := by kernel_rfl
theorem res86 : Tryd.f86.results.toList = [.tmp 4] := by kernel_rfl
theorem res87 : Tryd.f87.results.toList = [.tmp 4] := by kernel_rfl
theorem res88 : Tryd.f88.results.toList = [.tmp 2] := by kernel_rfl
theorem res89 : Tryd.f89.results.toList = [.tmp 4] := by kernel_rfl
theorem res90 : Tryd.f90.results.toList = [.tmp 8] := by kernel_rfl
theorem res91 : Tryd.f91.results.toList = [.tmp 4] := by kernel_rfl
theorem res92 : Tryd.f92.results.toList = [.tmp 4] := by kernel_rfl
theorem res93 : Tryd.f93.results.toList = [.tmp 3] := by kernel_rfl
theorem res94 : Tryd.f94.results.toList = [.tmp 12] := by kernel_rfl
theorem res95 : Tryd.f95.results.toList = [.tmp 4] := by kernel_rfl
theorem res96 : Tryd.f96.results.toList = [.tmp 6] := by kernel_rfl
theorem res97 : Tryd.f97.results.toList = [.tmp 2] := by kernel_rfl
theorem res98 : Tryd.f98.results.toList = [.tmp 2] := by kernel_rfl
theorem res99 : Tryd.f99.results.toList = [.tmp 2] := by kernel_rfl
theorem res100 : Tryd.f100.results.toList = [.tmp 4] := by kernel_rfl
theorem res101 : Tryd.f101.results.toList = [.tmp 4] := by kernel_rfl
theorem res102 : Tryd.f102.results.toList = [.cell 2 129, .cell 3 129] := by kernel_rfl
theorem res103 : Tryd.f103.results.toList = [.tmp 4] := by kernel_rfl
theorem res104 : Tryd.f104.results.toList = [.tmp 4] := by kernel_rfl
theorem res105 : Tryd.f105.results.toList = [.tmp 8] := by kernel_rfl
theorem res106 : Tryd.f106.results.toList = [.tmp 6] := by kernel_rfl
theorem res107 : Tryd.f107.results.toList = [.tmp 3] := by kernel_rfl
theorem res108 : Tryd.f108.results.toList = [.tmp 3] := by kernel_rfl
theorem res109 : Tryd.f109.results.toList = [.tmp 2] := by kernel_rfl
theorem res110 : Tryd.f110.results.toList = [.tmp 2] := by kernel_rfl
theorem res111 : Tryd.f111.results.toList = [.tmp 4] := by kernel_rfl
theorem res112 : Tryd.f112.results.toList = [.tmp 8] := by kernel_rfl
theorem res113 : Tryd.f113.results.toList = [.tmp 4] := by kernel_rfl
theorem res114 : Tryd.f114.results.toList = [.tmp 4] := by kernel_rfl
theorem res115 : Tryd.f115.results.toList = [.cell 4 129] := by kernel_rfl
theorem res116 : Tryd.f116.results.toList = [.tmp 10] := by kernel_rfl
theorem res117 : Tryd.f117.results.toList = [] := by kernel_rfl
theorem res118 : Tryd.f118.results.toList = [.tmp 2] := by kernel_rfl
theorem res119 : Tryd.f119.results.toList = [.tmp 4] := by kernel_rfl
theorem res120 : Tryd.f120.results.toList = [.tmp 2] := by kernel_rfl
theorem res121 : Tryd.f121.results.toList = [.tmp 6, .tmp 7] := by kernel_rfl
theorem res122 : Tryd.f122.results.toList = [.tmp 4] := by kernel_rfl
theorem res123 : Tryd.f123.results.toList = [.tmp 4] := by kernel_rfl
theorem res124 : Tryd.f124.results.toList = [.tmp 4, .tmp 5] := by kernel_rfl
theorem res125 : Tryd.f125.results.toList = [] := by kernel_rfl
theorem res126 : Tryd.f126.results.toList = [.tmp 6, .tmp 7] := by kernel_rfl
theorem res128 : Tryd.f128.results.toList = [.tmp 2] := by kernel_rfl
theorem res129 : Tryd.f129.results.toList = [.tmp 4, .tmp 5] := by kernel_rfl
theorem res131 : Tryd.f131.results.toList = [.tmp 4, .tmp 5] := by kernel_rfl
noncomputable abbrev EV (w : World) (X : Nat → Prop) (re : List Nat) (ord : List (Nat × Plan)) (det : Nat → List Value → Option Value) (cuts : List Nat) : Env := { P := Tryd.prog, w0 := ⟨w, X⟩, re := re, ord := ord, det := det, cuts := cuts }
abbrev I (n : Int) : Value := .int .i64 n
theorem mixed_prog : Tryd.prog.follows .mixedOrders = true := by kernel_rfl
theorem walkC {f : Nat} {fn : Func} {c : Code} {args : List Value} {n : Nat} {rs : List ResultVar} {Post : Value → List HO → Prop} {w : World} {X : Nat → Prop} (cuts : List Nat) (re : List Nat) (ord : List (Nat × Plan)) {det : Nat → List Value → Option Value} (hD : DetFn Tryd.prog ⟨w, X⟩ det)
    (hf : Tryd.prog.funcs[f]? = some fn) (hb : fn.body = some c) (hn : fn.ntmps = n) (hr : fn.results.toList = rs) (hok : codeB ord c = true) {H0 : List HO}
    (h0 : (∀ h ∈ H0, h.ok w) ∧ (∀ h ∈ H0, ∀ b, h.fp b → X b) ∧ H0.Pairwise Apart)
    (h : W (EV w X re ord det cuts) c (retQ (EV w X re ord det cuts) rs Post) (args.map SV.v ++ List.replicate (n - args.length) (.v undef)) [] H0) : SX.Fn Tryd.prog f args w X Post := by
  subst hn hr
  exact SX.Fn.intro (E := EV w X re ord det cuts) hf hb trivial hD mixed_prog hok h0 h
theorem walk {f : Nat} {fn : Func} {c : Code} {args : List Value} {n : Nat} {rs : List ResultVar} {Post : Value → List HO → Prop} {w : World} {X : Nat → Prop} (re : List Nat) (ord : List (Nat × Plan)) {det : Nat → List Value → Option Value} (hD : DetFn Tryd.prog ⟨w, X⟩ det)
    (hf : Tryd.prog.funcs[f]? = some fn) (hb : fn.body = some c) (hn : fn.ntmps = n) (hr : fn.results.toList = rs) (hok : codeB ord c = true) {H0 : List HO}
    (h0 : (∀ h ∈ H0, h.ok w) ∧ (∀ h ∈ H0, ∀ b, h.fp b → X b) ∧ H0.Pairwise Apart)
    (h : W (EV w X re ord det []) c (retQ (EV w X re ord det []) rs Post) (args.map SV.v ++ List.replicate (n - args.length) (.v undef)) [] H0) : SX.Fn Tryd.prog f args w X Post :=
  walkC [] re ord hD hf hb hn hr hok h0 h
theorem walkIterR {gf : Nat} {fn : Func} {c : Code} {pre post : List Value} {nt n : Nat} {arg : Nat → List Value → List HO → Prop} {w : World} (Rs : Nat → Prop) (re : List Nat) (ord : List (Nat × Plan)) {det : Nat → List Value → Option Value} (hD : ∀ X, (∀ b, Rs b → ¬ X b) → DetFn Tryd.prog ⟨w, X⟩ det)
    (hf : Tryd.prog.funcs[gf]? = some fn) (hb : fn.body = some c) (hn : fn.ntmps = nt) (hr : fn.results.toList = []) (hok : codeB ord c = true)
    (h : ∀ l J C R, (∀ b, Rs b → ¬ (C b ∨ False)) → Handler Tryd.prog l n arg w C (fun _ => False) J → W (EV w (fun b => C b ∨ False) re ord det []) c (retQ (EV w (fun b => C b ∨ False) re ord det []) [] (iterPost n J)) ((pre ++ [Value.func (.yield l) #[] #[]] ++ post).map SV.v ++ List.replicate (nt - (pre ++ [Value.func (.yield l) #[] #[]] ++ post).length) (.v undef)) [] [consu J (some 0) C R]) :
    Iter Tryd.prog gf pre post n arg (fun _ => False) Rs w := by
  refine Iter.intro fun l J C R hRs hH hk => ?_
  have hRs' : ∀ b, Rs b → ¬ (C b ∨ False) := fun b hb hc => hc.elim (hRs b hb) id
  have hw := h l J C R hRs' hH
  rw [← hr] at hw
  subst hn
  exact Fn.introZ (E := EV w (fun b => C b ∨ False) re ord det []) (fun b => C b ∨ R b) hf hb trivial (hD _ hRs') mixed_prog hok ⟨fun g hg => by rw [List.mem_singleton] at hg; subst hg; exact hk, fun g hg b => by rw [List.mem_singleton] at hg; subst hg; exact ⟨id, fun x => .inl x⟩, List.pairwise_singleton _ _⟩ hw
theorem no_facts {w : World} {X : Nat → Prop} : (∀ h ∈ ([] : List HO), h.ok w) ∧ (∀ h ∈ ([] : List HO), ∀ b, h.fp b → X b) ∧ ([] : List HO).Pairwise Apart := ⟨by simp, by simp, List.Pairwise.nil⟩
theorem wrap_id {n : Int} (h : -9223372036854775808 ≤ n ∧ n ≤ 9223372036854775807) : IntKind.i64.wrap n = n := by
  rw [IntKind.wrap_i64]
  omega
end Go.Proofs.YtaloedccoadedaaDoor

