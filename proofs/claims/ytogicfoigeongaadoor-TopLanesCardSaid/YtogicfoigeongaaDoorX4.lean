/- Parts of a proof: the symbolic walk and what it shows of single functions. -/
import Derived.Test.YtogicfoigeongaaDoorRows
import Derived.Test.YtogicfoigeongaaDoorX3
set_option linter.all false
namespace Go.Proofs.YtogicfoigeongaaDoor
open Go.RowKit Go.SX
set_option maxRecDepth 4000
theorem tr0 : arT Tryd.prog 141 = some (6, 3, some 3) := by kernel_rfl
theorem tr1 : arT Tryd.prog 142 = some (6, 1, none) := by kernel_rfl
theorem tr2 : arT Tryd.prog 22 = none := by kernel_rfl
theorem tr3 : arT Tryd.prog 23 = none := by kernel_rfl
theorem tr4 : arT Tryd.prog 26 = none := by kernel_rfl
theorem tr5 : arT Tryd.prog 27 = none := by kernel_rfl
theorem tr6 : arT Tryd.prog 30 = none := by kernel_rfl
theorem tr7 : arT Tryd.prog 33 = none := by kernel_rfl
theorem tr8 : arT Tryd.prog 40 = none := by kernel_rfl
theorem tr9 : arT Tryd.prog 46 = none := by kernel_rfl
theorem tr10 : arT Tryd.prog 49 = some (3, 1, none) := by kernel_rfl
theorem tr11 : arT Tryd.prog 89 = none := by kernel_rfl
theorem tr12 : arT Tryd.prog 99 = none := by kernel_rfl
theorem tr13 : elT Tryd.prog 22 = some (3, 1, [.int .i64 0], 8) := by kernel_rfl
theorem tr14 : elT Tryd.prog 23 = some (94, 2, [.int .i64 0, .int .i64 0], 16) := by kernel_rfl
theorem tr15 : elT Tryd.prog 33 = some (22, 1, [.slice none 0 0], 24) := by kernel_rfl
theorem tr16 : elT Tryd.prog 40 = some (44, 5, [.int .i64 0, .int .i64 0, .int .i64 0, .bool false, .slice none 0 0], 56) := by kernel_rfl
theorem tr17 : elT Tryd.prog 46 = some (49, 3, [.int .i64 0, .int .i64 0, .int .i64 0], 24) := by kernel_rfl
theorem tr18 : elT Tryd.prog 89 = some (4, 1, [.bool false], 1) := by kernel_rfl
theorem tr19 : elT Tryd.prog 99 = some (89, 1, [.slice none 0 0], 24) := by kernel_rfl
theorem tr20 : fldT Tryd.prog 94 0 = some (0, none) := by kernel_rfl
theorem tr33 : kdT Tryd.prog 3 = some 0 := by kernel_rfl
theorem tr34 : kdT Tryd.prog 36 = some 0 := by kernel_rfl
theorem tr35 : ldT Tryd.prog 123 = some (some 3) := by kernel_rfl
theorem tr36 : ldT Tryd.prog 140 = some (some 3) := by kernel_rfl
theorem tr38 : ldT Tryd.prog 22 = some none := by kernel_rfl
theorem tr39 : ldT Tryd.prog 23 = some none := by kernel_rfl
theorem tr40 : ldT Tryd.prog 25 = some (some 5) := by kernel_rfl
theorem tr41 : ldT Tryd.prog 26 = some none := by kernel_rfl
theorem tr42 : ldT Tryd.prog 27 = some none := by kernel_rfl
theorem tr43 : ldT Tryd.prog 29 = some (some 8) := by kernel_rfl
theorem tr44 : ldT Tryd.prog 3 = some none := by kernel_rfl
theorem tr45 : ldT Tryd.prog 30 = some none := by kernel_rfl
theorem tr46 : ldT Tryd.prog 32 = some (some 10) := by kernel_rfl
theorem tr47 : ldT Tryd.prog 33 = some none := by kernel_rfl
theorem tr48 : ldT Tryd.prog 36 = some none := by kernel_rfl
theorem tr49 : ldT Tryd.prog 4 = some none := by kernel_rfl
theorem tr51 : ldT Tryd.prog 42 = some (some 4) := by kernel_rfl
theorem tr52 : ldT Tryd.prog 44 = some (some 5) := by kernel_rfl
theorem tr53 : ldT Tryd.prog 49 = some (some 3) := by kernel_rfl
theorem tr55 : ldT Tryd.prog 70 = some (some 4) := by kernel_rfl
theorem tr56 : ldT Tryd.prog 81 = some (some 5) := by kernel_rfl
theorem tr57 : ldT Tryd.prog 83 = some (some 6) := by kernel_rfl
theorem tr58 : ldT Tryd.prog 89 = some none := by kernel_rfl
theorem tr59 : ldT Tryd.prog 94 = some (some 2) := by kernel_rfl
theorem tr60 : ldT Tryd.prog 99 = some none := by kernel_rfl
theorem tr61 : offT Tryd.prog 102 0 = some 0 := by kernel_rfl
theorem tr63 : offT Tryd.prog 102 2 = some 6 := by kernel_rfl
theorem tr64 : offT Tryd.prog 117 0 = some 0 := by kernel_rfl
theorem tr65 : offT Tryd.prog 117 1 = some 1 := by kernel_rfl
theorem tr66 : offT Tryd.prog 117 2 = some 2 := by kernel_rfl
theorem tr67 : offT Tryd.prog 123 0 = some 0 := by kernel_rfl
theorem tr68 : offT Tryd.prog 123 1 = some 1 := by kernel_rfl
theorem tr69 : offT Tryd.prog 140 0 = some 0 := by kernel_rfl
theorem tr70 : offT Tryd.prog 140 1 = some 1 := by kernel_rfl
theorem tr71 : offT Tryd.prog 140 2 = some 2 := by kernel_rfl
theorem tr72 : offT Tryd.prog 25 0 = some 0 := by kernel_rfl
theorem tr73 : offT Tryd.prog 25 1 = some 1 := by kernel_rfl
theorem tr74 : offT Tryd.prog 25 2 = some 2 := by kernel_rfl
theorem tr75 : offT Tryd.prog 25 3 = some 3 := by kernel_rfl
theorem tr76 : offT Tryd.prog 25 4 = some 4 := by kernel_rfl
theorem tr77 : offT Tryd.prog 29 0 = some 0 := by kernel_rfl
theorem tr78 : offT Tryd.prog 29 1 = some 5 := by kernel_rfl
theorem tr79 : offT Tryd.prog 29 2 = some 6 := by kernel_rfl
theorem tr80 : offT Tryd.prog 29 3 = some 7 := by kernel_rfl
theorem tr81 : offT Tryd.prog 32 0 = some 0 := by kernel_rfl
theorem tr82 : offT Tryd.prog 32 1 = some 8 := by kernel_rfl
theorem tr83 : offT Tryd.prog 32 2 = some 9 := by kernel_rfl
theorem tr84 : offT Tryd.prog 42 0 = some 0 := by kernel_rfl
theorem tr85 : offT Tryd.prog 42 1 = some 1 := by kernel_rfl
theorem tr86 : offT Tryd.prog 42 2 = some 2 := by kernel_rfl
theorem tr87 : offT Tryd.prog 42 3 = some 3 := by kernel_rfl
theorem tr88 : offT Tryd.prog 44 0 = some 0 := by kernel_rfl
theorem tr89 : offT Tryd.prog 44 1 = some 1 := by kernel_rfl
theorem tr90 : offT Tryd.prog 44 2 = some 2 := by kernel_rfl
theorem tr91 : offT Tryd.prog 44 3 = some 3 := by kernel_rfl
theorem tr92 : offT Tryd.prog 44 4 = some 4 := by kernel_rfl
theorem tr99 : offT Tryd.prog 70 0 = some 0 := by kernel_rfl
theorem tr100 : offT Tryd.prog 70 1 = some 1 := by kernel_rfl
theorem tr101 : offT Tryd.prog 70 2 = some 2 := by kernel_rfl
theorem tr102 : offT Tryd.prog 70 3 = some 3 := by kernel_rfl
theorem tr103 : offT Tryd.prog 81 0 = some 0 := by kernel_rfl
theorem tr104 : offT Tryd.prog 83 0 = some 0 := by kernel_rfl
theorem tr105 : offT Tryd.prog 83 1 = some 5 := by kernel_rfl
theorem tr106 : offT Tryd.prog 94 0 = some 0 := by kernel_rfl
theorem tr107 : offT Tryd.prog 94 1 = some 1 := by kernel_rfl
theorem tr108 : placesT Tryd.prog 102 = some [(0, 5), (5, 1), (6, 1)] := by kernel_rfl
theorem tr109 : placesT Tryd.prog 117 = some [(0, 1), (1, 1), (2, 1)] := by kernel_rfl
theorem tr110 : placesT Tryd.prog 142 = some [(0, 1), (1, 1), (2, 1), (3, 1), (4, 1), (5, 1)] := by kernel_rfl
theorem tr111 : placesT Tryd.prog 25 = some [(0, 1), (1, 1), (2, 1), (3, 1), (4, 1)] := by kernel_rfl
theorem tr112 : placesT Tryd.prog 44 = some [(0, 1), (1, 1), (2, 1), (3, 1), (4, 1)] := by kernel_rfl
theorem tr113 : placesT Tryd.prog 49 = some [(0, 1), (1, 1), (2, 1)] := by kernel_rfl
theorem tr114 : placesT Tryd.prog 70 = some [(0, 1), (1, 1), (2, 1), (3, 1)] := by kernel_rfl
theorem tr115 : placesT Tryd.prog 81 = some [(0, 5)] := by kernel_rfl
theorem tr116 : placesT Tryd.prog 83 = some [(0, 5), (5, 1)] := by kernel_rfl
theorem tr117 : placesT Tryd.prog 94 = some [(0, 1), (1, 1)] := by kernel_rfl
theorem tr118 : slT Tryd.prog 141 = none := by kernel_rfl
theorem tr119 : slT Tryd.prog 142 = none := by kernel_rfl
theorem tr120 : slT Tryd.prog 22 = some (3, 1) := by kernel_rfl
theorem tr121 : slT Tryd.prog 23 = some (94, 2) := by kernel_rfl
theorem tr122 : slT Tryd.prog 26 = some (27, 1) := by kernel_rfl
theorem tr123 : slT Tryd.prog 27 = some (123, 3) := by kernel_rfl
theorem tr124 : slT Tryd.prog 30 = some (42, 4) := by kernel_rfl
theorem tr125 : slT Tryd.prog 33 = some (22, 1) := by kernel_rfl
theorem tr126 : slT Tryd.prog 40 = some (44, 5) := by kernel_rfl
theorem tr127 : slT Tryd.prog 46 = some (49, 3) := by kernel_rfl
theorem tr128 : slT Tryd.prog 49 = none := by kernel_rfl
theorem tr129 : slT Tryd.prog 89 = some (4, 1) := by kernel_rfl
theorem tr130 : slT Tryd.prog 99 = some (89, 1) := by kernel_rfl
theorem tr131 : szT Tryd.prog 140 = some 3 := by kernel_rfl
theorem tr132 : szT Tryd.prog 142 = some 6 := by kernel_rfl
theorem tr134 : szT Tryd.prog 22 = some 1 := by kernel_rfl
theorem tr135 : szT Tryd.prog 25 = some 5 := by kernel_rfl
theorem tr136 : szT Tryd.prog 3 = some 1 := by kernel_rfl
theorem tr137 : szT Tryd.prog 33 = some 1 := by kernel_rfl
theorem tr138 : szT Tryd.prog 36 = some 1 := by kernel_rfl
theorem tr139 : szT Tryd.prog 4 = some 1 := by kernel_rfl
theorem tr140 : szT Tryd.prog 42 = some 4 := by kernel_rfl
theorem tr141 : szT Tryd.prog 44 = some 5 := by kernel_rfl
theorem tr142 : szT Tryd.prog 70 = some 4 := by kernel_rfl
theorem tr143 : szT Tryd.prog 81 = some 5 := by kernel_rfl
theorem tr144 : szT Tryd.prog 83 = some 6 := by kernel_rfl
theorem tr145 : szT Tryd.prog 89 = some 1 := by kernel_rfl
theorem tr146 : szT Tryd.prog 94 = some 2 := by kernel_rfl
theorem tr147 : szT Tryd.prog 99 = some 1 := by kernel_rfl
theorem tr148 : zeroT Tryd.prog 102 = some [.int .i64 0, .int .i64 0, .slice none 0 0, .slice none 0 0, .slice none 0 0, .slice none 0 0, .slice none 0 0] := by kernel_rfl
theorem tr149 : zeroT Tryd.prog 117 = some [.slice none 0 0, .slice none 0 0, .slice none 0 0] := by kernel_rfl
theorem tr150 : zeroT Tryd.prog 140 = some [.int .i64 0, .int .i64 0, .int .i64 0] := by kernel_rfl
theorem tr151 : zeroT Tryd.prog 142 = some [.int .i64 0, .int .i64 0, .int .i64 0, .int .i64 0, .int .i64 0, .int .i64 0] := by kernel_rfl
theorem tr153 : zeroT Tryd.prog 22 = some [.slice none 0 0] := by kernel_rfl
theorem tr154 : zeroT Tryd.prog 25 = some [.int .i64 0, .int .i64 0, .slice none 0 0, .slice none 0 0, .slice none 0 0] := by kernel_rfl
theorem tr155 : zeroT Tryd.prog 3 = some [.int .i64 0] := by kernel_rfl
theorem tr156 : zeroT Tryd.prog 36 = some [.int .i64 0] := by kernel_rfl
theorem tr157 : zeroT Tryd.prog 42 = some [.int .i64 0, .int .i64 0, .int .i64 0, .int .i64 0] := by kernel_rfl
theorem tr158 : zeroT Tryd.prog 44 = some [.int .i64 0, .int .i64 0, .int .i64 0, .bool false, .slice none 0 0] := by kernel_rfl
theorem tr159 : zeroT Tryd.prog 49 = some [.int .i64 0, .int .i64 0, .int .i64 0] := by kernel_rfl
theorem tr160 : zeroT Tryd.prog 70 = some [.int .i64 0, .int .i64 0, .int .i64 0, .bool false] := by kernel_rfl
theorem tr161 : zeroT Tryd.prog 81 = some [.int .i64 0, .int .i64 0, .slice none 0 0, .slice none 0 0, .slice none 0 0] := by kernel_rfl
theorem tr162 : zeroT Tryd.prog 83 = some [.int .i64 0, .int .i64 0, .slice none 0 0, .slice none 0 0, .slice none 0 0, .int .i64 0] := by kernel_rfl
theorem tr163 : zeroT Tryd.prog 89 = some [.slice none 0 0] := by kernel_rfl
theorem tr164 : zeroT Tryd.prog 94 = some [.int .i64 0, .int .i64 0] := by kernel_rfl
theorem tr165 : zeroT Tryd.prog 99 = some [.slice none 0 0] := by kernel_rfl
theorem tf3 : (CallT Tryd.prog 10 = True) ∧ (CallT Tryd.prog 11 = True) ∧ (CallT Tryd.prog 5 = True) ∧ (CallT Tryd.prog 6 = True) ∧ (CallT Tryd.prog 7 = True) ∧ (CallT Tryd.prog 8 = True) ∧ (CallT Tryd.prog 9 = True) ∧ (arT Tryd.prog 22 = none) ∧ (arT Tryd.prog 30 = none) ∧ (arT Tryd.prog 33 = none) ∧ (arT Tryd.prog 40 = none) ∧ (arT Tryd.prog 46 = none) ∧ (arT Tryd.prog 49 = some (3, 1, none)) ∧ (elT Tryd.prog 22 = some (3, 1, [.int .i64 0], 8)) ∧ (elT Tryd.prog 40 = some (44, 5, [.int .i64 0, .int .i64 0, .int .i64 0, .bool false, .slice none 0 0], 56)) ∧ (kdT Tryd.prog 3 = some 0) ∧ (kdT Tryd.prog 36 = some 0) ∧ (ldT Tryd.prog 22 = some none) ∧ (ldT Tryd.prog 25 = some (some 5)) ∧ (ldT Tryd.prog 3 = some none) ∧ (ldT Tryd.prog 30 = some none) ∧ (ldT Tryd.prog 32 = some (some 10)) ∧ (ldT Tryd.prog 44 = some (some 5)) ∧ (offT Tryd.prog 29 0 = some 0) ∧ (offT Tryd.prog 32 0 = some 0) ∧ (offT Tryd.prog 32 1 = some 8) ∧ (offT Tryd.prog 32 2 = some 9) ∧ (offT Tryd.prog 42 1 = some 1) ∧ (offT Tryd.prog 42 2 = some 2) ∧ (offT Tryd.prog 44 1 = some 1) ∧ (offT Tryd.prog 44 2 = some 2) ∧ (placesT Tryd.prog 44 = some [(0, 1), (1, 1), (2, 1), (3, 1), (4, 1)]) ∧ (slT Tryd.prog 22 = some (3, 1)) ∧ (slT Tryd.prog 30 = some (42, 4)) ∧ (slT Tryd.prog 33 = some (22, 1)) ∧ (slT Tryd.prog 40 = some (44, 5)) ∧ (slT Tryd.prog 46 = some (49, 3)) ∧ (slT Tryd.prog 49 = none) ∧ (szT Tryd.prog 3 = some 1) ∧ (szT Tryd.prog 44 = some 5) ∧ (zeroT Tryd.prog 44 = some [.int .i64 0, .int .i64 0, .int .i64 0, .bool false, .slice none 0 0]) := ⟨eq_true Tryd.call10, eq_true Tryd.call11, eq_true Tryd.call5, eq_true Tryd.call6, eq_true Tryd.call7, eq_true Tryd.call8, eq_true Tryd.call9, tr2, tr6, tr7, tr8, tr9, tr10, tr13, tr16, tr33, tr34, tr38, tr40, tr44, tr45, tr46, tr52, tr77, tr81, tr82, tr83, tr85, tr86, tr89, tr90, tr112, tr120, tr124, tr125, tr126, tr127, tr128, tr136, tr141, tr158⟩
theorem tf5 : (CallT Tryd.prog 18 = True) ∧ (kdT Tryd.prog 3 = some 0) ∧ (ldT Tryd.prog 29 = some (some 8)) ∧ (ldT Tryd.prog 30 = some none) ∧ (offT Tryd.prog 32 0 = some 0) ∧ (offT Tryd.prog 32 1 = some 8) ∧ (slT Tryd.prog 30 = some (42, 4)) := ⟨eq_true Tryd.call18, tr33, tr43, tr45, tr81, tr82, tr124⟩
theorem tf6 : (arT Tryd.prog 33 = none) ∧ (kdT Tryd.prog 3 = some 0) ∧ (ldT Tryd.prog 22 = some none) ∧ (slT Tryd.prog 22 = some (3, 1)) ∧ (slT Tryd.prog 33 = some (22, 1)) := ⟨tr7, tr33, tr38, tr120, tr125⟩
theorem tf7 : (CallT Tryd.prog 19 = True) ∧ (CallT Tryd.prog 20 = True) ∧ (CallT Tryd.prog 21 = True) ∧ (arT Tryd.prog 30 = none) ∧ (kdT Tryd.prog 3 = some 0) ∧ (kdT Tryd.prog 36 = some 0) ∧ (ldT Tryd.prog 23 = some none) ∧ (ldT Tryd.prog 25 = some (some 5)) ∧ (ldT Tryd.prog 29 = some (some 8)) ∧ (ldT Tryd.prog 3 = some none) ∧ (ldT Tryd.prog 30 = some none) ∧ (ldT Tryd.prog 42 = some (some 4)) ∧ (offT Tryd.prog 25 3 = some 3) ∧ (offT Tryd.prog 29 0 = some 0) ∧ (offT Tryd.prog 32 0 = some 0) ∧ (offT Tryd.prog 32 1 = some 8) ∧ (offT Tryd.prog 32 2 = some 9) ∧ (offT Tryd.prog 42 0 = some 0) ∧ (offT Tryd.prog 42 1 = some 1) ∧ (offT Tryd.prog 42 2 = some 2) ∧ (offT Tryd.prog 42 3 = some 3) ∧ (slT Tryd.prog 23 = some (94, 2)) ∧ (slT Tryd.prog 30 = some (42, 4)) ∧ (szT Tryd.prog 42 = some 4) ∧ (zeroT Tryd.prog 42 = some [.int .i64 0, .int .i64 0, .int .i64 0, .int .i64 0]) := ⟨eq_true Tryd.call19, eq_true Tryd.call20, eq_true Tryd.call21, tr6, tr33, tr34, tr39, tr40, tr43, tr44, tr45, tr51, tr75, tr77, tr81, tr82, tr83, tr84, tr85, tr86, tr87, tr121, tr124, tr140, tr157⟩
theorem tf8 : (CallT Tryd.prog 21 = True) ∧ (CallT Tryd.prog 22 = True) ∧ (CallT Tryd.prog 23 = True) ∧ (arT Tryd.prog 22 = none) ∧ (arT Tryd.prog 30 = none) ∧ (arT Tryd.prog 33 = none) ∧ (kdT Tryd.prog 3 = some 0) ∧ (ldT Tryd.prog 22 = some none) ∧ (ldT Tryd.prog 25 = some (some 5)) ∧ (ldT Tryd.prog 3 = some none) ∧ (ldT Tryd.prog 30 = some none) ∧ (ldT Tryd.prog 32 = some (some 10)) ∧ (ldT Tryd.prog 42 = some (some 4)) ∧ (offT Tryd.prog 29 0 = some 0) ∧ (offT Tryd.prog 32 0 = some 0) ∧ (offT Tryd.prog 32 1 = some 8) ∧ (offT Tryd.prog 32 2 = some 9) ∧ (offT Tryd.prog 42 0 = some 0) ∧ (offT Tryd.prog 42 1 = some 1) ∧ (slT Tryd.prog 22 = some (3, 1)) ∧ (slT Tryd.prog 30 = some (42, 4)) ∧ (slT Tryd.prog 33 = some (22, 1)) := ⟨eq_true Tryd.call21, eq_true Tryd.call22, eq_true Tryd.call23, tr2, tr6, tr7, tr33, tr38, tr40, tr44, tr45, tr46, tr51, tr77, tr81, tr82, tr83, tr84, tr85, tr120, tr124, tr125⟩
theorem tf9 : (CallT Tryd.prog 11 = True) ∧ (CallT Tryd.prog 24 = True) ∧ (CallT Tryd.prog 25 = True) ∧ (arT Tryd.prog 22 = none) ∧ (arT Tryd.prog 46 = none) ∧ (kdT Tryd.prog 3 = some 0) ∧ (kdT Tryd.prog 36 = some 0) ∧ (ldT Tryd.prog 25 = some (some 5)) ∧ (ldT Tryd.prog 3 = some none) ∧ (ldT Tryd.prog 49 = some (some 3)) ∧ (placesT Tryd.prog 49 = some [(0, 1), (1, 1), (2, 1)]) ∧ (slT Tryd.prog 22 = some (3, 1)) ∧ (slT Tryd.prog 46 = some (49, 3)) ∧ (szT Tryd.prog 25 = some 5) ∧ (zeroT Tryd.prog 25 = some [.int .i64 0, .int .i64 0, .slice none 0 0, .slice none 0 0, .slice none 0 0]) ∧ (zeroT Tryd.prog 49 = some [.int .i64 0, .int .i64 0, .int .i64 0]) := ⟨eq_true Tryd.call11, eq_true Tryd.call24, eq_true Tryd.call25, tr2, tr9, tr33, tr34, tr40, tr44, tr53, tr113, tr120, tr127, tr135, tr154, tr159⟩
theorem tf10 : (CallT Tryd.prog 26 = True) ∧ (ldT Tryd.prog 25 = some (some 5)) := ⟨eq_true Tryd.call26, tr40⟩
theorem tf11 : (CallT Tryd.prog 26 = True) ∧ (CallT Tryd.prog 27 = True) ∧ (CallT Tryd.prog 28 = True) ∧ (arT Tryd.prog 40 = none) ∧ (elT Tryd.prog 46 = some (49, 3, [.int .i64 0, .int .i64 0, .int .i64 0], 24)) ∧ (kdT Tryd.prog 3 = some 0) ∧ (kdT Tryd.prog 36 = some 0) ∧ (ldT Tryd.prog 23 = some none) ∧ (ldT Tryd.prog 25 = some (some 5)) ∧ (ldT Tryd.prog 44 = some (some 5)) ∧ (ldT Tryd.prog 70 = some (some 4)) ∧ (offT Tryd.prog 25 3 = some 3) ∧ (placesT Tryd.prog 49 = some [(0, 1), (1, 1), (2, 1)]) ∧ (slT Tryd.prog 23 = some (94, 2)) ∧ (slT Tryd.prog 40 = some (44, 5)) ∧ (szT Tryd.prog 44 = some 5) ∧ (szT Tryd.prog 70 = some 4) ∧ (zeroT Tryd.prog 44 = some [.int .i64 0, .int .i64 0, .int .i64 0, .bool false, .slice none 0 0]) ∧ (zeroT Tryd.prog 49 = some [.int .i64 0, .int .i64 0, .int .i64 0]) ∧ (zeroT Tryd.prog 70 = some [.int .i64 0, .int .i64 0, .int .i64 0, .bool false]) := ⟨eq_true Tryd.call26, eq_true Tryd.call27, eq_true Tryd.call28, tr8, tr17, tr33, tr34, tr39, tr40, tr52, tr55, tr75, tr113, tr121, tr126, tr141, tr142, tr158, tr159, tr160⟩
theorem tf18 : (CallT Tryd.prog 19 = True) ∧ (CallT Tryd.prog 30 = True) ∧ (arT Tryd.prog 23 = none) ∧ (arT Tryd.prog 26 = none) ∧ (kdT Tryd.prog 3 = some 0) ∧ (kdT Tryd.prog 36 = some 0) ∧ (ldT Tryd.prog 22 = some none) ∧ (ldT Tryd.prog 23 = some none) ∧ (ldT Tryd.prog 25 = some (some 5)) ∧ (ldT Tryd.prog 26 = some none) ∧ (ldT Tryd.prog 27 = some none) ∧ (ldT Tryd.prog 29 = some (some 8)) ∧ (ldT Tryd.prog 3 = some none) ∧ (offT Tryd.prog 25 2 = some 2) ∧ (offT Tryd.prog 25 3 = some 3) ∧ (offT Tryd.prog 25 4 = some 4) ∧ (offT Tryd.prog 29 0 = some 0) ∧ (offT Tryd.prog 29 1 = some 5) ∧ (offT Tryd.prog 29 2 = some 6) ∧ (offT Tryd.prog 29 3 = some 7) ∧ (offT Tryd.prog 94 0 = some 0) ∧ (offT Tryd.prog 94 1 = some 1) ∧ (slT Tryd.prog 22 = some (3, 1)) ∧ (slT Tryd.prog 23 = some (94, 2)) ∧ (slT Tryd.prog 26 = some (27, 1)) ∧ (slT Tryd.prog 27 = some (123, 3)) := ⟨eq_true Tryd.call19, eq_true Tryd.call30, tr3, tr4, tr33, tr34, tr38, tr39, tr40, tr41, tr42, tr43, tr44, tr74, tr75, tr76, tr77, tr78, tr79, tr80, tr106, tr107, tr120, tr121, tr122, tr123⟩
theorem tf19 : (CallT Tryd.prog 29 = True) ∧ (CallT Tryd.prog 42 = True) ∧ (CallT Tryd.prog 43 = True) ∧ (arT Tryd.prog 22 = none) ∧ (arT Tryd.prog 26 = none) ∧ (kdT Tryd.prog 3 = some 0) ∧ (kdT Tryd.prog 36 = some 0) ∧ (ldT Tryd.prog 22 = some none) ∧ (ldT Tryd.prog 23 = some none) ∧ (ldT Tryd.prog 25 = some (some 5)) ∧ (ldT Tryd.prog 26 = some none) ∧ (ldT Tryd.prog 27 = some none) ∧ (ldT Tryd.prog 3 = some none) ∧ (offT Tryd.prog 25 2 = some 2) ∧ (offT Tryd.prog 25 3 = some 3) ∧ (offT Tryd.prog 29 0 = some 0) ∧ (offT Tryd.prog 29 1 = some 5) ∧ (offT Tryd.prog 29 2 = some 6) ∧ (offT Tryd.prog 29 3 = some 7) ∧ (slT Tryd.prog 22 = some (3, 1)) ∧ (slT Tryd.prog 23 = some (94, 2)) ∧ (slT Tryd.prog 26 = some (27, 1)) := ⟨eq_true Tryd.call29, eq_true Tryd.call42, eq_true Tryd.call43, tr2, tr4, tr33, tr34, tr38, tr39, tr40, tr41, tr42, tr44, tr74, tr75, tr77, tr78, tr79, tr80, tr120, tr121, tr122⟩
theorem tf20 : (kdT Tryd.prog 3 = some 0) := tr33
theorem tf21 : (CallT Tryd.prog 30 = True) ∧ (CallT Tryd.prog 44 = True) ∧ (kdT Tryd.prog 3 = some 0) ∧ (ldT Tryd.prog 25 = some (some 5)) := ⟨eq_true Tryd.call30, eq_true Tryd.call44, tr33, tr40⟩
theorem tf22 : (CallT Tryd.prog 45 = True) ∧ (elT Tryd.prog 33 = some (22, 1, [.slice none 0 0], 24)) ∧ (kdT Tryd.prog 3 = some 0) ∧ (ldT Tryd.prog 22 = some none) ∧ (ldT Tryd.prog 25 = some (some 5)) ∧ (offT Tryd.prog 25 2 = some 2) ∧ (offT Tryd.prog 29 0 = some 0) ∧ (offT Tryd.prog 32 0 = some 0) ∧ (slT Tryd.prog 22 = some (3, 1)) := ⟨eq_true Tryd.call45, tr15, tr33, tr38, tr40, tr74, tr77, tr81, tr120⟩
theorem tf23 : (CallT Tryd.prog 46 = True) ∧ (kdT Tryd.prog 3 = some 0) ∧ (ldT Tryd.prog 25 = some (some 5)) ∧ (ldT Tryd.prog 3 = some none) ∧ (offT Tryd.prog 29 0 = some 0) ∧ (offT Tryd.prog 32 0 = some 0) ∧ (offT Tryd.prog 42 2 = some 2) := ⟨eq_true Tryd.call46, tr33, tr40, tr44, tr77, tr81, tr86⟩
theorem tf24 : (CallT Tryd.prog 47 = True) ∧ (elT Tryd.prog 22 = some (3, 1, [.int .i64 0], 8)) ∧ (elT Tryd.prog 40 = some (44, 5, [.int .i64 0, .int .i64 0, .int .i64 0, .bool false, .slice none 0 0], 56)) ∧ (ldT Tryd.prog 25 = some (some 5)) ∧ (placesT Tryd.prog 44 = some [(0, 1), (1, 1), (2, 1), (3, 1), (4, 1)]) ∧ (szT Tryd.prog 25 = some 5) ∧ (zeroT Tryd.prog 25 = some [.int .i64 0, .int .i64 0, .slice none 0 0, .slice none 0 0, .slice none 0 0]) ∧ (zeroT Tryd.prog 44 = some [.int .i64 0, .int .i64 0, .int .i64 0, .bool false, .slice none 0 0]) := ⟨eq_true Tryd.call47, tr13, tr16, tr40, tr112, tr135, tr154, tr158⟩
theorem tf25 : (CallT Tryd.prog 36 = True) ∧ (CallT Tryd.prog 38 = True) ∧ (CallT Tryd.prog 48 = True) ∧ (arT Tryd.prog 89 = none) ∧ (elT Tryd.prog 22 = some (3, 1, [.int .i64 0], 8)) ∧ (elT Tryd.prog 99 = some (89, 1, [.slice none 0 0], 24)) ∧ (kdT Tryd.prog 36 = some 0) ∧ (ldT Tryd.prog 22 = some none) ∧ (ldT Tryd.prog 25 = some (some 5)) ∧ (ldT Tryd.prog 3 = some none) ∧ (ldT Tryd.prog 36 = some none) ∧ (ldT Tryd.prog 4 = some none) ∧ (ldT Tryd.prog 83 = some (some 6)) ∧ (ldT Tryd.prog 99 = some none) ∧ (slT Tryd.prog 89 = some (4, 1)) ∧ (szT Tryd.prog 22 = some 1) ∧ (szT Tryd.prog 36 = some 1) ∧ (szT Tryd.prog 83 = some 6) ∧ (szT Tryd.prog 99 = some 1) ∧ (zeroT Tryd.prog 22 = some [.slice none 0 0]) ∧ (zeroT Tryd.prog 36 = some [.int .i64 0]) ∧ (zeroT Tryd.prog 83 = some [.int .i64 0, .int .i64 0, .slice none 0 0, .slice none 0 0, .slice none 0 0, .int .i64 0]) ∧ (zeroT Tryd.prog 99 = some [.slice none 0 0]) := ⟨eq_true Tryd.call36, eq_true Tryd.call38, eq_true Tryd.call48, tr11, tr13, tr19, tr34, tr38, tr40, tr44, tr48, tr49, tr57, tr60, tr129, tr134, tr138, tr144, tr147, tr153, tr156, tr162, tr165⟩
theorem tf26 : (CallT Tryd.prog 49 = True) ∧ (CallT Tryd.prog 50 = True) ∧ (CallT Tryd.prog 51 = True) ∧ (CallT Tryd.prog 52 = True) ∧ (CallT Tryd.prog 53 = True) ∧ (elT Tryd.prog 22 = some (3, 1, [.int .i64 0], 8)) ∧ (elT Tryd.prog 33 = some (22, 1, [.slice none 0 0], 24)) ∧ (kdT Tryd.prog 3 = some 0) ∧ (kdT Tryd.prog 36 = some 0) ∧ (ldT Tryd.prog 22 = some none) ∧ (ldT Tryd.prog 25 = some (some 5)) ∧ (ldT Tryd.prog 33 = some none) ∧ (offT Tryd.prog 102 2 = some 6) ∧ (offT Tryd.prog 25 2 = some 2) ∧ (placesT Tryd.prog 102 = some [(0, 5), (5, 1), (6, 1)]) ∧ (slT Tryd.prog 22 = some (3, 1)) ∧ (slT Tryd.prog 40 = some (44, 5)) ∧ (szT Tryd.prog 33 = some 1) ∧ (zeroT Tryd.prog 102 = some [.int .i64 0, .int .i64 0, .slice none 0 0, .slice none 0 0, .slice none 0 0, .slice none 0 0, .slice none 0 0]) := ⟨eq_true Tryd.call49, eq_true Tryd.call50, eq_true Tryd.call51, eq_true Tryd.call52, eq_true Tryd.call53, tr13, tr15, tr33, tr34, tr38, tr40, tr47, tr63, tr74, tr108, tr120, tr126, tr137, tr148⟩
theorem tf27 : (CallT Tryd.prog 54 = True) ∧ (arT Tryd.prog 22 = none) ∧ (kdT Tryd.prog 3 = some 0) ∧ (ldT Tryd.prog 22 = some none) ∧ (ldT Tryd.prog 3 = some none) ∧ (ldT Tryd.prog 4 = some none) ∧ (ldT Tryd.prog 70 = some (some 4)) ∧ (offT Tryd.prog 44 0 = some 0) ∧ (offT Tryd.prog 44 1 = some 1) ∧ (offT Tryd.prog 44 3 = some 3) ∧ (offT Tryd.prog 44 4 = some 4) ∧ (offT Tryd.prog 70 1 = some 1) ∧ (placesT Tryd.prog 70 = some [(0, 1), (1, 1), (2, 1), (3, 1)]) ∧ (slT Tryd.prog 22 = some (3, 1)) ∧ (szT Tryd.prog 3 = some 1) ∧ (szT Tryd.prog 70 = some 4) ∧ (zeroT Tryd.prog 70 = some [.int .i64 0, .int .i64 0, .int .i64 0, .bool false]) := ⟨eq_true Tryd.call54, tr2, tr33, tr38, tr44, tr49, tr55, tr88, tr89, tr91, tr92, tr100, tr114, tr120, tr136, tr142, tr160⟩
theorem tf28 : (CallT Tryd.prog 55 = True) ∧ (arT Tryd.prog 22 = none) ∧ (elT Tryd.prog 22 = some (3, 1, [.int .i64 0], 8)) ∧ (kdT Tryd.prog 3 = some 0) ∧ (ldT Tryd.prog 3 = some none) ∧ (ldT Tryd.prog 70 = some (some 4)) ∧ (offT Tryd.prog 70 0 = some 0) ∧ (offT Tryd.prog 70 1 = some 1) ∧ (offT Tryd.prog 70 2 = some 2) ∧ (slT Tryd.prog 22 = some (3, 1)) := ⟨eq_true Tryd.call55, tr2, tr13, tr33, tr44, tr55, tr99, tr100, tr101, tr120⟩
theorem tf29 : (CallT Tryd.prog 44 = True) ∧ (arT Tryd.prog 22 = none) ∧ (arT Tryd.prog 23 = none) ∧ (kdT Tryd.prog 3 = some 0) ∧ (ldT Tryd.prog 22 = some none) ∧ (ldT Tryd.prog 23 = some none) ∧ (ldT Tryd.prog 3 = some none) ∧ (offT Tryd.prog 25 0 = some 0) ∧ (offT Tryd.prog 25 1 = some 1) ∧ (offT Tryd.prog 25 2 = some 2) ∧ (offT Tryd.prog 25 3 = some 3) ∧ (offT Tryd.prog 25 4 = some 4) ∧ (offT Tryd.prog 94 0 = some 0) ∧ (offT Tryd.prog 94 1 = some 1) ∧ (slT Tryd.prog 22 = some (3, 1)) ∧ (slT Tryd.prog 23 = some (94, 2)) := ⟨eq_true Tryd.call44, tr2, tr3, tr33, tr38, tr39, tr44, tr72, tr73, tr74, tr75, tr76, tr106, tr107, tr120, tr121⟩
theorem tf30 : (kdT Tryd.prog 3 = some 0) ∧ (ldT Tryd.prog 3 = some none) ∧ (offT Tryd.prog 25 0 = some 0) ∧ (offT Tryd.prog 25 1 = some 1) := ⟨tr33, tr44, tr72, tr73⟩
theorem tf32 : (CallT Tryd.prog 44 = True) ∧ (kdT Tryd.prog 3 = some 0) ∧ (ldT Tryd.prog 23 = some none) ∧ (offT Tryd.prog 25 3 = some 3) ∧ (slT Tryd.prog 23 = some (94, 2)) := ⟨eq_true Tryd.call44, tr33, tr39, tr75, tr121⟩
theorem tf36 : (CallT Tryd.prog 63 = True) ∧ (elT Tryd.prog 22 = some (3, 1, [.int .i64 0], 8)) ∧ (ldT Tryd.prog 25 = some (some 5)) ∧ (ldT Tryd.prog 81 = some (some 5)) ∧ (ldT Tryd.prog 83 = some (some 6)) ∧ (placesT Tryd.prog 117 = some [(0, 1), (1, 1), (2, 1)]) ∧ (placesT Tryd.prog 83 = some [(0, 5), (5, 1)]) ∧ (szT Tryd.prog 81 = some 5) ∧ (szT Tryd.prog 83 = some 6) ∧ (zeroT Tryd.prog 117 = some [.slice none 0 0, .slice none 0 0, .slice none 0 0]) ∧ (zeroT Tryd.prog 81 = some [.int .i64 0, .int .i64 0, .slice none 0 0, .slice none 0 0, .slice none 0 0]) ∧ (zeroT Tryd.prog 83 = some [.int .i64 0, .int .i64 0, .slice none 0 0, .slice none 0 0, .slice none 0 0, .int .i64 0]) := ⟨eq_true Tryd.call63, tr13, tr40, tr56, tr57, tr109, tr116, tr143, tr144, tr149, tr161, tr162⟩
theorem tf38 : (CallT Tryd.prog 64 = True) := eq_true Tryd.call64
theorem tf40 : (CallT Tryd.prog 65 = True) ∧ (arT Tryd.prog 89 = none) ∧ (elT Tryd.prog 89 = some (4, 1, [.bool false], 1)) ∧ (ldT Tryd.prog 22 = some none) ∧ (ldT Tryd.prog 83 = some (some 6)) ∧ (offT Tryd.prog 25 2 = some 2) ∧ (offT Tryd.prog 81 0 = some 0) ∧ (offT Tryd.prog 83 0 = some 0) ∧ (slT Tryd.prog 22 = some (3, 1)) ∧ (slT Tryd.prog 89 = some (4, 1)) ∧ (szT Tryd.prog 4 = some 1) := ⟨eq_true Tryd.call65, tr11, tr18, tr38, tr57, tr74, tr103, tr104, tr120, tr129, tr139⟩
theorem tf41 : (CallT Tryd.prog 65 = True) ∧ (CallT Tryd.prog 66 = True) ∧ (arT Tryd.prog 89 = none) ∧ (elT Tryd.prog 89 = some (4, 1, [.bool false], 1)) ∧ (kdT Tryd.prog 3 = some 0) ∧ (ldT Tryd.prog 3 = some none) ∧ (ldT Tryd.prog 4 = some none) ∧ (ldT Tryd.prog 81 = some (some 5)) ∧ (ldT Tryd.prog 83 = some (some 6)) ∧ (ldT Tryd.prog 89 = some none) ∧ (offT Tryd.prog 83 0 = some 0) ∧ (slT Tryd.prog 89 = some (4, 1)) ∧ (szT Tryd.prog 4 = some 1) ∧ (szT Tryd.prog 89 = some 1) ∧ (zeroT Tryd.prog 89 = some [.slice none 0 0]) := ⟨eq_true Tryd.call65, eq_true Tryd.call66, tr11, tr18, tr33, tr44, tr49, tr56, tr57, tr58, tr104, tr129, tr139, tr145, tr163⟩
theorem tf42 : (kdT Tryd.prog 3 = some 0) := tr33
theorem tf43 : (CallT Tryd.prog 67 = True) ∧ (arT Tryd.prog 27 = none) ∧ (kdT Tryd.prog 3 = some 0) ∧ (ldT Tryd.prog 123 = some (some 3)) ∧ (slT Tryd.prog 27 = some (123, 3)) := ⟨eq_true Tryd.call67, tr5, tr33, tr35, tr123⟩
theorem tf44 : (kdT Tryd.prog 3 = some 0) := tr33
theorem tf45 : (CallT Tryd.prog 30 = True) ∧ (CallT Tryd.prog 68 = True) ∧ (arT Tryd.prog 22 = none) ∧ (elT Tryd.prog 22 = some (3, 1, [.int .i64 0], 8)) ∧ (kdT Tryd.prog 3 = some 0) ∧ (ldT Tryd.prog 25 = some (some 5)) ∧ (ldT Tryd.prog 3 = some none) ∧ (slT Tryd.prog 22 = some (3, 1)) ∧ (szT Tryd.prog 3 = some 1) := ⟨eq_true Tryd.call30, eq_true Tryd.call68, tr2, tr13, tr33, tr40, tr44, tr120, tr136⟩
theorem tf46 : (CallT Tryd.prog 69 = True) ∧ (arT Tryd.prog 23 = none) ∧ (kdT Tryd.prog 3 = some 0) ∧ (ldT Tryd.prog 23 = some none) ∧ (ldT Tryd.prog 25 = some (some 5)) ∧ (ldT Tryd.prog 3 = some none) ∧ (offT Tryd.prog 25 3 = some 3) ∧ (offT Tryd.prog 94 0 = some 0) ∧ (slT Tryd.prog 23 = some (94, 2)) := ⟨eq_true Tryd.call69, tr3, tr33, tr39, tr40, tr44, tr75, tr106, tr121⟩
theorem tf47 : (elT Tryd.prog 22 = some (3, 1, [.int .i64 0], 8)) ∧ (elT Tryd.prog 23 = some (94, 2, [.int .i64 0, .int .i64 0], 16)) ∧ (ldT Tryd.prog 25 = some (some 5)) ∧ (placesT Tryd.prog 25 = some [(0, 1), (1, 1), (2, 1), (3, 1), (4, 1)]) ∧ (placesT Tryd.prog 94 = some [(0, 1), (1, 1)]) ∧ (szT Tryd.prog 25 = some 5) ∧ (zeroT Tryd.prog 25 = some [.int .i64 0, .int .i64 0, .slice none 0 0, .slice none 0 0, .slice none 0 0]) ∧ (zeroT Tryd.prog 94 = some [.int .i64 0, .int .i64 0]) := ⟨tr13, tr14, tr40, tr111, tr117, tr135, tr154, tr164⟩
theorem tf48 : (CallT Tryd.prog 66 = True) ∧ (arT Tryd.prog 22 = none) ∧ (arT Tryd.prog 89 = none) ∧ (arT Tryd.prog 99 = none) ∧ (elT Tryd.prog 22 = some (3, 1, [.int .i64 0], 8)) ∧ (kdT Tryd.prog 3 = some 0) ∧ (ldT Tryd.prog 22 = some none) ∧ (ldT Tryd.prog 3 = some none) ∧ (ldT Tryd.prog 4 = some none) ∧ (ldT Tryd.prog 81 = some (some 5)) ∧ (ldT Tryd.prog 89 = some none) ∧ (ldT Tryd.prog 99 = some none) ∧ (offT Tryd.prog 25 2 = some 2) ∧ (offT Tryd.prog 81 0 = some 0) ∧ (offT Tryd.prog 83 0 = some 0) ∧ (slT Tryd.prog 22 = some (3, 1)) ∧ (slT Tryd.prog 89 = some (4, 1)) ∧ (slT Tryd.prog 99 = some (89, 1)) ∧ (szT Tryd.prog 3 = some 1) ∧ (zeroT Tryd.prog 3 = some [.int .i64 0]) := ⟨eq_true Tryd.call66, tr2, tr11, tr12, tr13, tr33, tr38, tr44, tr49, tr56, tr58, tr60, tr74, tr103, tr104, tr120, tr129, tr130, tr136, tr155⟩
theorem tf49 : (CallT Tryd.prog 70 = True) ∧ (CallT Tryd.prog 71 = True) ∧ (CallT Tryd.prog 72 = True) ∧ (CallT Tryd.prog 73 = True) ∧ (CallT Tryd.prog 74 = True) ∧ (CallT Tryd.prog 75 = True) ∧ (kdT Tryd.prog 3 = some 0) ∧ (ldT Tryd.prog 22 = some none) ∧ (ldT Tryd.prog 23 = some none) ∧ (ldT Tryd.prog 3 = some none) ∧ (offT Tryd.prog 25 0 = some 0) ∧ (offT Tryd.prog 25 1 = some 1) ∧ (offT Tryd.prog 25 2 = some 2) ∧ (offT Tryd.prog 25 3 = some 3) ∧ (offT Tryd.prog 25 4 = some 4) ∧ (slT Tryd.prog 22 = some (3, 1)) ∧ (slT Tryd.prog 23 = some (94, 2)) := ⟨eq_true Tryd.call70, eq_true Tryd.call71, eq_true Tryd.call72, eq_true Tryd.call73, eq_true Tryd.call74, eq_true Tryd.call75, tr33, tr38, tr39, tr44, tr72, tr73, tr74, tr75, tr76, tr120, tr121⟩
theorem tf50 : (CallT Tryd.prog 63 = True) ∧ (CallT Tryd.prog 70 = True) ∧ (CallT Tryd.prog 76 = True) ∧ (elT Tryd.prog 22 = some (3, 1, [.int .i64 0], 8)) ∧ (kdT Tryd.prog 36 = some 0) ∧ (ldT Tryd.prog 25 = some (some 5)) ∧ (ldT Tryd.prog 81 = some (some 5)) ∧ (placesT Tryd.prog 117 = some [(0, 1), (1, 1), (2, 1)]) ∧ (szT Tryd.prog 81 = some 5) ∧ (zeroT Tryd.prog 117 = some [.slice none 0 0, .slice none 0 0, .slice none 0 0]) ∧ (zeroT Tryd.prog 81 = some [.int .i64 0, .int .i64 0, .slice none 0 0, .slice none 0 0, .slice none 0 0]) := ⟨eq_true Tryd.call63, eq_true Tryd.call70, eq_true Tryd.call76, tr13, tr34, tr40, tr56, tr109, tr143, tr149, tr161⟩
theorem tf52 : (arT Tryd.prog 40 = none) ∧ (kdT Tryd.prog 3 = some 0) ∧ (ldT Tryd.prog 44 = some (some 5)) ∧ (slT Tryd.prog 40 = some (44, 5)) ∧ (szT Tryd.prog 44 = some 5) ∧ (zeroT Tryd.prog 44 = some [.int .i64 0, .int .i64 0, .int .i64 0, .bool false, .slice none 0 0]) := ⟨tr8, tr33, tr52, tr126, tr141, tr158⟩
theorem tf53 : (CallT Tryd.prog 79 = True) ∧ (CallT Tryd.prog 80 = True) ∧ (CallT Tryd.prog 81 = True) ∧ (CallT Tryd.prog 82 = True) ∧ (CallT Tryd.prog 83 = True) ∧ (CallT Tryd.prog 84 = True) ∧ (arT Tryd.prog 22 = none) ∧ (arT Tryd.prog 33 = none) ∧ (kdT Tryd.prog 3 = some 0) ∧ (ldT Tryd.prog 22 = some none) ∧ (ldT Tryd.prog 23 = some none) ∧ (ldT Tryd.prog 3 = some none) ∧ (ldT Tryd.prog 33 = some none) ∧ (offT Tryd.prog 102 0 = some 0) ∧ (offT Tryd.prog 102 2 = some 6) ∧ (offT Tryd.prog 25 3 = some 3) ∧ (offT Tryd.prog 44 0 = some 0) ∧ (offT Tryd.prog 44 1 = some 1) ∧ (offT Tryd.prog 44 2 = some 2) ∧ (offT Tryd.prog 44 4 = some 4) ∧ (slT Tryd.prog 22 = some (3, 1)) ∧ (slT Tryd.prog 23 = some (94, 2)) ∧ (slT Tryd.prog 33 = some (22, 1)) := ⟨eq_true Tryd.call79, eq_true Tryd.call80, eq_true Tryd.call81, eq_true Tryd.call82, eq_true Tryd.call83, eq_true Tryd.call84, tr2, tr7, tr33, tr38, tr39, tr44, tr47, tr61, tr63, tr75, tr88, tr89, tr90, tr92, tr120, tr121, tr125⟩
theorem tf54 : (kdT Tryd.prog 3 = some 0) := tr33
theorem tf55 : (kdT Tryd.prog 3 = some 0) ∧ (ldT Tryd.prog 3 = some none) ∧ (ldT Tryd.prog 4 = some none) ∧ (offT Tryd.prog 70 1 = some 1) ∧ (offT Tryd.prog 70 2 = some 2) ∧ (offT Tryd.prog 70 3 = some 3) := ⟨tr33, tr44, tr49, tr100, tr101, tr102⟩
theorem tf63 : (CallT Tryd.prog 49 = True) ∧ (CallT Tryd.prog 74 = True) ∧ (CallT Tryd.prog 88 = True) ∧ (CallT Tryd.prog 89 = True) ∧ (CallT Tryd.prog 90 = True) ∧ (kdT Tryd.prog 36 = some 0) ∧ (ldT Tryd.prog 22 = some none) ∧ (ldT Tryd.prog 25 = some (some 5)) ∧ (ldT Tryd.prog 81 = some (some 5)) ∧ (offT Tryd.prog 117 0 = some 0) ∧ (offT Tryd.prog 117 1 = some 1) ∧ (offT Tryd.prog 117 2 = some 2) ∧ (placesT Tryd.prog 81 = some [(0, 5)]) ∧ (szT Tryd.prog 81 = some 5) ∧ (zeroT Tryd.prog 81 = some [.int .i64 0, .int .i64 0, .slice none 0 0, .slice none 0 0, .slice none 0 0]) := ⟨eq_true Tryd.call49, eq_true Tryd.call74, eq_true Tryd.call88, eq_true Tryd.call89, eq_true Tryd.call90, tr34, tr38, tr40, tr56, tr64, tr65, tr66, tr115, tr143, tr161⟩
theorem tf64 : (CallT Tryd.prog 40 = True) ∧ (CallT Tryd.prog 41 = True) ∧ (kdT Tryd.prog 3 = some 0) ∧ (ldT Tryd.prog 23 = some none) ∧ (ldT Tryd.prog 3 = some none) ∧ (ldT Tryd.prog 83 = some (some 6)) ∧ (offT Tryd.prog 25 3 = some 3) ∧ (offT Tryd.prog 81 0 = some 0) ∧ (offT Tryd.prog 83 0 = some 0) ∧ (slT Tryd.prog 23 = some (94, 2)) ∧ (szT Tryd.prog 3 = some 1) := ⟨eq_true Tryd.call40, eq_true Tryd.call41, tr33, tr39, tr44, tr57, tr75, tr103, tr104, tr121, tr136⟩
theorem tf65 : (CallT Tryd.prog 91 = True) ∧ (fldT Tryd.prog 94 0 = some (0, none)) ∧ (kdT Tryd.prog 3 = some 0) ∧ (ldT Tryd.prog 3 = some none) ∧ (ldT Tryd.prog 81 = some (some 5)) ∧ (offT Tryd.prog 83 0 = some 0) ∧ (offT Tryd.prog 83 1 = some 5) := ⟨eq_true Tryd.call91, tr20, tr33, tr44, tr56, tr104, tr105⟩
theorem tf66 : (CallT Tryd.prog 92 = True) := eq_true Tryd.call92
theorem tf67 : (CallT Tryd.prog 42 = True) ∧ (kdT Tryd.prog 3 = some 0) ∧ (ldT Tryd.prog 3 = some none) ∧ (offT Tryd.prog 123 0 = some 0) ∧ (offT Tryd.prog 123 1 = some 1) ∧ (offT Tryd.prog 94 0 = some 0) ∧ (offT Tryd.prog 94 1 = some 1) := ⟨eq_true Tryd.call42, tr33, tr44, tr67, tr68, tr106, tr107⟩
theorem tf68 : (CallT Tryd.prog 44 = True) ∧ (arT Tryd.prog 142 = some (6, 1, none)) ∧ (kdT Tryd.prog 3 = some 0) ∧ (ldT Tryd.prog 3 = some none) ∧ (offT Tryd.prog 25 0 = some 0) ∧ (offT Tryd.prog 25 1 = some 1) ∧ (placesT Tryd.prog 142 = some [(0, 1), (1, 1), (2, 1), (3, 1), (4, 1), (5, 1)]) ∧ (slT Tryd.prog 142 = none) ∧ (szT Tryd.prog 142 = some 6) ∧ (zeroT Tryd.prog 142 = some [.int .i64 0, .int .i64 0, .int .i64 0, .int .i64 0, .int .i64 0, .int .i64 0]) := ⟨eq_true Tryd.call44, tr1, tr33, tr44, tr72, tr73, tr110, tr119, tr132, tr151⟩
theorem tf69 : (arT Tryd.prog 22 = none) ∧ (kdT Tryd.prog 3 = some 0) ∧ (ldT Tryd.prog 22 = some none) ∧ (ldT Tryd.prog 3 = some none) ∧ (offT Tryd.prog 25 2 = some 2) ∧ (offT Tryd.prog 25 4 = some 4) ∧ (slT Tryd.prog 22 = some (3, 1)) := ⟨tr2, tr33, tr38, tr44, tr74, tr76, tr120⟩
theorem tf70 : (kdT Tryd.prog 3 = some 0) := tr33
theorem tf71 : (CallT Tryd.prog 70 = True) := eq_true Tryd.call70
theorem tf72 : (kdT Tryd.prog 3 = some 0) ∧ (ldT Tryd.prog 3 = some none) ∧ (offT Tryd.prog 94 0 = some 0) ∧ (offT Tryd.prog 94 1 = some 1) := ⟨tr33, tr44, tr106, tr107⟩
theorem tf73 : (CallT Tryd.prog 70 = True) := eq_true Tryd.call70
theorem tf74 : (CallT Tryd.prog 93 = True) ∧ (kdT Tryd.prog 3 = some 0) := ⟨eq_true Tryd.call93, tr33⟩
theorem tf75 : (CallT Tryd.prog 94 = True) ∧ (kdT Tryd.prog 3 = some 0) := ⟨eq_true Tryd.call94, tr33⟩
theorem tf76 : (CallT Tryd.prog 70 = True) ∧ (arT Tryd.prog 141 = some (6, 3, some 3)) ∧ (kdT Tryd.prog 3 = some 0) ∧ (ldT Tryd.prog 140 = some (some 3)) ∧ (ldT Tryd.prog 3 = some none) ∧ (offT Tryd.prog 140 0 = some 0) ∧ (offT Tryd.prog 140 1 = some 1) ∧ (offT Tryd.prog 140 2 = some 2) ∧ (offT Tryd.prog 25 0 = some 0) ∧ (offT Tryd.prog 25 1 = some 1) ∧ (offT Tryd.prog 81 0 = some 0) ∧ (slT Tryd.prog 141 = none) ∧ (szT Tryd.prog 140 = some 3) ∧ (zeroT Tryd.prog 140 = some [.int .i64 0, .int .i64 0, .int .i64 0]) := ⟨eq_true Tryd.call70, tr0, tr33, tr36, tr44, tr69, tr70, tr71, tr72, tr73, tr103, tr118, tr131, tr150⟩
theorem tf79 : (CallT Tryd.prog 54 = True) ∧ (kdT Tryd.prog 3 = some 0) ∧ (ldT Tryd.prog 23 = some none) ∧ (offT Tryd.prog 102 0 = some 0) ∧ (offT Tryd.prog 25 3 = some 3) ∧ (slT Tryd.prog 23 = some (94, 2)) := ⟨eq_true Tryd.call54, tr33, tr39, tr61, tr75, tr121⟩
theorem tf80 : (arT Tryd.prog 22 = none) ∧ (kdT Tryd.prog 3 = some 0) ∧ (ldT Tryd.prog 3 = some none) ∧ (slT Tryd.prog 22 = some (3, 1)) := ⟨tr2, tr33, tr44, tr120⟩
theorem tf81 : (CallT Tryd.prog 54 = True) ∧ (kdT Tryd.prog 3 = some 0) ∧ (ldT Tryd.prog 22 = some none) ∧ (offT Tryd.prog 102 0 = some 0) ∧ (offT Tryd.prog 25 2 = some 2) ∧ (slT Tryd.prog 22 = some (3, 1)) := ⟨eq_true Tryd.call54, tr33, tr38, tr61, tr74, tr120⟩
theorem tf82 : (CallT Tryd.prog 54 = True) ∧ (kdT Tryd.prog 3 = some 0) := ⟨eq_true Tryd.call54, tr33⟩
theorem tf83 : (CallT Tryd.prog 106 = True) ∧ (kdT Tryd.prog 3 = some 0) := ⟨eq_true Tryd.call106, tr33⟩
theorem tf84 : (CallT Tryd.prog 107 = True) ∧ (kdT Tryd.prog 3 = some 0) ∧ (kdT Tryd.prog 36 = some 0) ∧ (ldT Tryd.prog 25 = some (some 5)) ∧ (offT Tryd.prog 102 0 = some 0) := ⟨eq_true Tryd.call107, tr33, tr34, tr40, tr61⟩
theorem tf88 : (CallT Tryd.prog 70 = True) ∧ (kdT Tryd.prog 3 = some 0) ∧ (ldT Tryd.prog 22 = some none) ∧ (offT Tryd.prog 25 2 = some 2) ∧ (slT Tryd.prog 22 = some (3, 1)) := ⟨eq_true Tryd.call70, tr33, tr38, tr74, tr120⟩
theorem tf89 : (CallT Tryd.prog 70 = True) ∧ (kdT Tryd.prog 3 = some 0) ∧ (ldT Tryd.prog 23 = some none) ∧ (offT Tryd.prog 25 3 = some 3) ∧ (slT Tryd.prog 23 = some (94, 2)) := ⟨eq_true Tryd.call70, tr33, tr39, tr75, tr121⟩
theorem tf90 : (CallT Tryd.prog 70 = True) := eq_true Tryd.call70
theorem tf91 : (arT Tryd.prog 22 = none) ∧ (arT Tryd.prog 23 = none) ∧ (kdT Tryd.prog 3 = some 0) ∧ (ldT Tryd.prog 22 = some none) ∧ (ldT Tryd.prog 23 = some none) ∧ (ldT Tryd.prog 3 = some none) ∧ (ldT Tryd.prog 94 = some (some 2)) ∧ (offT Tryd.prog 25 2 = some 2) ∧ (offT Tryd.prog 25 3 = some 3) ∧ (offT Tryd.prog 25 4 = some 4) ∧ (offT Tryd.prog 81 0 = some 0) ∧ (offT Tryd.prog 94 0 = some 0) ∧ (offT Tryd.prog 94 1 = some 1) ∧ (placesT Tryd.prog 94 = some [(0, 1), (1, 1)]) ∧ (slT Tryd.prog 22 = some (3, 1)) ∧ (slT Tryd.prog 23 = some (94, 2)) ∧ (szT Tryd.prog 94 = some 2) ∧ (zeroT Tryd.prog 94 = some [.int .i64 0, .int .i64 0]) := ⟨tr2, tr3, tr33, tr38, tr39, tr44, tr59, tr74, tr75, tr76, tr103, tr106, tr107, tr117, tr120, tr121, tr146, tr164⟩
theorem tf92 : (CallT Tryd.prog 76 = True) ∧ (kdT Tryd.prog 3 = some 0) ∧ (ldT Tryd.prog 3 = some none) ∧ (ldT Tryd.prog 81 = some (some 5)) := ⟨eq_true Tryd.call76, tr33, tr44, tr56⟩
theorem tf93 : (arT Tryd.prog 22 = none) ∧ (kdT Tryd.prog 3 = some 0) ∧ (ldT Tryd.prog 3 = some none) ∧ (slT Tryd.prog 22 = some (3, 1)) := ⟨tr2, tr33, tr44, tr120⟩
theorem tf94 : (arT Tryd.prog 23 = none) ∧ (kdT Tryd.prog 3 = some 0) ∧ (ldT Tryd.prog 94 = some (some 2)) ∧ (slT Tryd.prog 23 = some (94, 2)) := ⟨tr3, tr33, tr59, tr121⟩
theorem tf106 : (arT Tryd.prog 22 = none) ∧ (kdT Tryd.prog 3 = some 0) ∧ (ldT Tryd.prog 3 = some none) ∧ (slT Tryd.prog 22 = some (3, 1)) := ⟨tr2, tr33, tr44, tr120⟩
theorem tf107 : (CallT Tryd.prog 63 = True) ∧ (CallT Tryd.prog 91 = True) ∧ (elT Tryd.prog 22 = some (3, 1, [.int .i64 0], 8)) ∧ (kdT Tryd.prog 3 = some 0) ∧ (kdT Tryd.prog 36 = some 0) ∧ (ldT Tryd.prog 25 = some (some 5)) ∧ (ldT Tryd.prog 3 = some none) ∧ (ldT Tryd.prog 81 = some (some 5)) ∧ (offT Tryd.prog 94 0 = some 0) ∧ (offT Tryd.prog 94 1 = some 1) ∧ (placesT Tryd.prog 117 = some [(0, 1), (1, 1), (2, 1)]) ∧ (szT Tryd.prog 81 = some 5) ∧ (szT Tryd.prog 94 = some 2) ∧ (zeroT Tryd.prog 117 = some [.slice none 0 0, .slice none 0 0, .slice none 0 0]) ∧ (zeroT Tryd.prog 81 = some [.int .i64 0, .int .i64 0, .slice none 0 0, .slice none 0 0, .slice none 0 0]) ∧ (zeroT Tryd.prog 94 = some [.int .i64 0, .int .i64 0]) := ⟨eq_true Tryd.call63, eq_true Tryd.call91, tr13, tr33, tr34, tr40, tr44, tr56, tr106, tr107, tr109, tr143, tr146, tr149, tr161, tr164⟩
theorem res3 : Tryd.f3.results.toList = [.tmp 4] := by kernel_rfl
theorem res5 : Tryd.f5.results.toList = [.tmp 2] := by kernel_rfl
theorem res6 : Tryd.f6.results.toList = [.tmp 2] := by kernel_rfl
theorem res7 : Tryd.f7.results.toList = [.tmp 2] := by kernel_rfl
theorem res8 : Tryd.f8.results.toList = [.tmp 4] := by kernel_rfl
theorem res9 : Tryd.f9.results.toList = [.tmp 0] := by kernel_rfl
theorem res10 : Tryd.f10.results.toList = [.tmp 4] := by kernel_rfl
theorem res11 : Tryd.f11.results.toList = [.tmp 4, .tmp 5] := by kernel_rfl
theorem res18 : Tryd.f18.results.toList = [.tmp 2] := by kernel_rfl
theorem res19 : Tryd.f19.results.toList = [.tmp 2] := by kernel_rfl
theorem res20 : Tryd.f20.results.toList = [.tmp 6] := by kernel_rfl
theorem res21 : Tryd.f21.results.toList = [.tmp 4] := by kernel_rfl
theorem res22 : Tryd.f22.results.toList = [.tmp 2] := by kernel_rfl
theorem res23 : Tryd.f23.results.toList = [.tmp 8] := by kernel_rfl
theorem res24 : Tryd.f24.results.toList = [.cell 0 25, .tmp 1] := by kernel_rfl
theorem res25 : Tryd.f25.results.toList = [.cell 10 22, .cell 11 36] := by kernel_rfl
theorem res26 : Tryd.f26.results.toList = [.tmp 4, .tmp 5] := by kernel_rfl
theorem res27 : Tryd.f27.results.toList = [.cell 4 70, .tmp 5] := by kernel_rfl
theorem res28 : Tryd.f28.results.toList = [.tmp 4] := by kernel_rfl
theorem res29 : Tryd.f29.results.toList = [.tmp 2] := by kernel_rfl
theorem res30 : Tryd.f30.results.toList = [.tmp 2] := by kernel_rfl
theorem res32 : Tryd.f32.results.toList = [.tmp 4] := by kernel_rfl
theorem res36 : Tryd.f36.results.toList = [.cell 8 83, .tmp 9] := by kernel_rfl
theorem res38 : Tryd.f38.results.toList = [.tmp 6] := by kernel_rfl
theorem res40 : Tryd.f40.results.toList = [.tmp 6] := by kernel_rfl
theorem res41 : Tryd.f41.results.toList = [.tmp 6] := by kernel_rfl
theorem res42 : Tryd.f42.results.toList = [.tmp 6] := by kernel_rfl
theorem res43 : Tryd.f43.results.toList = [.tmp 4] := by kernel_rfl
theorem res44 : Tryd.f44.results.toList = [.tmp 6] := by kernel_rfl
theorem res45 : Tryd.f45.results.toList = [.tmp 4] := by kernel_rfl
theorem res46 : Tryd.f46.results.toList = [.tmp 8] := by kernel_rfl
theorem res47 : Tryd.f47.results.toList = [.cell 0 25] := by kernel_rfl
theorem res48 : Tryd.f48.results.toList = [.tmp 6] := by kernel_rfl
theorem res49 : Tryd.f49.results.toList = [.tmp 2] := by kernel_rfl
theorem res50 : Tryd.f50.results.toList = [.tmp 6, .tmp 7] := by kernel_rfl
theorem res52 : Tryd.f52.results.toList = [.tmp 4] := by kernel_rfl
theorem res53 : Tryd.f53.results.toList = [.tmp 4] := by kernel_rfl
theorem res54 : Tryd.f54.results.toList = [.tmp 6] := by kernel_rfl
theorem res55 : Tryd.f55.results.toList = [.tmp 4] := by kernel_rfl
theorem res63 : Tryd.f63.results.toList = [.cell 4 81, .tmp 5] := by kernel_rfl
theorem res64 : Tryd.f64.results.toList = [] := by kernel_rfl
theorem res65 : Tryd.f65.results.toList = [.tmp 6] := by kernel_rfl
theorem res66 : Tryd.f66.results.toList = [.tmp 4] := by kernel_rfl
theorem res67 : Tryd.f67.results.toList = [.tmp 2] := by kernel_rfl
theorem res68 : Tryd.f68.results.toList = [.tmp 6, .tmp 7] := by kernel_rfl
theorem res69 : Tryd.f69.results.toList = [.tmp 8] := by kernel_rfl
theorem res70 : Tryd.f70.results.toList = [.tmp 6] := by kernel_rfl
theorem res71 : Tryd.f71.results.toList = [.tmp 2] := by kernel_rfl
theorem res72 : Tryd.f72.results.toList = [.tmp 2] := by kernel_rfl
theorem res73 : Tryd.f73.results.toList = [.tmp 2] := by kernel_rfl
theorem res74 : Tryd.f74.results.toList = [.tmp 4] := by kernel_rfl
theorem res75 : Tryd.f75.results.toList = [.tmp 4] := by kernel_rfl
theorem res76 : Tryd.f76.results.toList = [.tmp 6, .tmp 7] := by kernel_rfl
theorem res79 : Tryd.f79.results.toList = [.tmp 4] := by kernel_rfl
theorem res80 : Tryd.f80.results.toList = [.tmp 4] := by kernel_rfl
theorem res81 : Tryd.f81.results.toList = [.tmp 4] := by kernel_rfl
theorem res82 : Tryd.f82.results.toList = [.tmp 4] := by kernel_rfl
theorem res83 : Tryd.f83.results.toList = [.tmp 4] := by kernel_rfl
theorem res84 : Tryd.f84.results.toList = [.tmp 10] := by kernel_rfl
theorem res88 : Tryd.f88.results.toList = [.tmp 3] := by kernel_rfl
theorem res89 : Tryd.f89.results.toList = [.tmp 3] := by kernel_rfl
theorem res90 : Tryd.f90.results.toList = [.tmp 2] := by kernel_rfl
theorem res91 : Tryd.f91.results.toList = [.cell 6 94] := by kernel_rfl
theorem res92 : Tryd.f92.results.toList = [] := by kernel_rfl
theorem res93 : Tryd.f93.results.toList = [.tmp 4] := by kernel_rfl
theorem res94 : Tryd.f94.results.toList = [.tmp 4] := by kernel_rfl
theorem res106 : Tryd.f106.results.toList = [.tmp 4] := by kernel_rfl
theorem res107 : Tryd.f107.results.toList = [.tmp 8, .tmp 9, .tmp 10] := by kernel_rfl
noncomputable abbrev EV (w : World) (X : Nat → Prop) (re : List Nat) (ord : List (Nat × Plan)) (det : Nat → List Value → Option Value) (cuts : List Nat) : Env := { P := Tryd.prog, w0 := ⟨w, X⟩, re := re, ord := ord, det := det, cuts := cuts }
abbrev I (n : Int) : Value := .int .i64 n
theorem mixed_prog : Tryd.prog.follows .mixedOrders = true := by kernel_rfl
theorem walkC {f : Nat} {fn : Func} {c : Code} {args : List Value} {n : Nat} {rs : List ResultVar} {Post : Value → List HO → Prop} {w : World} {X : Nat → Prop} (cuts : List Nat) (re : List Nat) (ord : List (Nat × Plan)) {det : Nat → List Value → Option Value} (hD : DetFn Tryd.prog ⟨w, X⟩ det)
    (hf : Tryd.prog.funcs[f]? = some fn) (hb : fn.body = some c) (hn : fn.ntmps = n) (hr : fn.results.toList = rs) (hok : codeB ord c = true) {H0 : List HO}
    (h0 : (∀ h ∈ H0, h.ok w) ∧ (∀ h ∈ H0, ∀ b, h.fp b → X b) ∧ H0.Pairwise Apart)
    (h : W (EV w X re ord det cuts) c (retQ (EV w X re ord det cuts) rs Post) (args.map SV.v ++ List.replicate (n - args.length) (.v undef)) [] H0) : SX.Fn Tryd.prog f args w X Post := by
  subst hn hr
  exact SX.Fn.intro (E := EV w X re ord det cuts) hf hb trivial hD mixed_prog hok h0 h
theorem walk {f : Nat} {fn : Func} {c : Code} {args : List Value} {n : Nat} {rs : List ResultVar} {Post : Value → List HO → Prop} {w : World} {X : Nat → Prop} (re : List Nat) (ord : List (Nat × Plan)) {det : Nat → List Value → Option Value} (hD : DetFn Tryd.prog ⟨w, X⟩ det)
    (hf : Tryd.prog.funcs[f]? = some fn) (hb : fn.body = some c) (hn : fn.ntmps = n) (hr : fn.results.toList = rs) (hok : codeB ord c = true) {H0 : List HO}
    (h0 : (∀ h ∈ H0, h.ok w) ∧ (∀ h ∈ H0, ∀ b, h.fp b → X b) ∧ H0.Pairwise Apart)
    (h : W (EV w X re ord det []) c (retQ (EV w X re ord det []) rs Post) (args.map SV.v ++ List.replicate (n - args.length) (.v undef)) [] H0) : SX.Fn Tryd.prog f args w X Post :=
  walkC [] re ord hD hf hb hn hr hok h0 h
theorem walkIterR {gf : Nat} {fn : Func} {c : Code} {pre post : List Value} {nt n : Nat} {arg : Nat → List Value → List HO → Prop} {w : World} (Rs : Nat → Prop) (re : List Nat) (ord : List (Nat × Plan)) {det : Nat → List Value → Option Value} (hD : ∀ X, (∀ b, Rs b → ¬ X b) → DetFn Tryd.prog ⟨w, X⟩ det)
    (hf : Tryd.prog.funcs[gf]? = some fn) (hb : fn.body = some c) (hn : fn.ntmps = nt) (hr : fn.results.toList = []) (hok : codeB ord c = true)
    (h : ∀ l J C R, (∀ b, Rs b → ¬ (C b ∨ False)) → Handler Tryd.prog l n arg w C (fun _ => False) J → W (EV w (fun b => C b ∨ False) re ord det []) c (retQ (EV w (fun b => C b ∨ False) re ord det []) [] (iterPost n J)) ((pre ++ [Value.func (.yield l) #[] #[]] ++ post).map SV.v ++ List.replicate (nt - (pre ++ [Value.func (.yield l) #[] #[]] ++ post).length) (.v undef)) [] [consu J (some 0) C R]) :
    Iter Tryd.prog gf pre post n arg (fun _ => False) Rs w := by
  refine Iter.intro fun l J C R hRs hH hk => ?_
  have hRs' : ∀ b, Rs b → ¬ (C b ∨ False) := fun b hb hc => hc.elim (hRs b hb) id
  have hw := h l J C R hRs' hH
  rw [← hr] at hw
  subst hn
  exact Fn.introZ (E := EV w (fun b => C b ∨ False) re ord det []) (fun b => C b ∨ R b) hf hb trivial (hD _ hRs') mixed_prog hok ⟨fun g hg => by rw [List.mem_singleton] at hg; subst hg; exact hk, fun g hg b => by rw [List.mem_singleton] at hg; subst hg; exact ⟨id, fun x => .inl x⟩, List.pairwise_singleton _ _⟩ hw
theorem no_facts {w : World} {X : Nat → Prop} : (∀ h ∈ ([] : List HO), h.ok w) ∧ (∀ h ∈ ([] : List HO), ∀ b, h.fp b → X b) ∧ ([] : List HO).Pairwise Apart := ⟨by simp, by simp, List.Pairwise.nil⟩
theorem wrap_id {n : Int} (h : -9223372036854775808 ≤ n ∧ n ≤ 9223372036854775807) : IntKind.i64.wrap n = n := by
  rw [IntKind.wrap_i64]
  omega
end Go.Proofs.YtogicfoigeongaaDoor

