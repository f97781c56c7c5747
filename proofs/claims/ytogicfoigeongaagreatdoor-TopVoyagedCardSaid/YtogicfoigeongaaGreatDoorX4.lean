/- Parts of a proof: the symbolic walk and what it shows of single functions. -/
import Derived.Test.YtogicfoigeongaaGreatDoorRows
import Derived.Test.YtogicfoigeongaaGreatDoorX3
set_option linter.all false
namespace Go.Proofs.YtogicfoigeongaaGreatDoor
open Go.RowKit Go.SX
set_option maxRecDepth 4000
theorem tr0 : arT Tryz.prog 100 = none := by kernel_rfl
theorem tr1 : arT Tryz.prog 103 = none := by kernel_rfl
theorem tr2 : arT Tryz.prog 107 = none := by kernel_rfl
theorem tr3 : arT Tryz.prog 123 = none := by kernel_rfl
theorem tr4 : arT Tryz.prog 133 = some (6, 3, some 3) := by kernel_rfl
theorem tr5 : arT Tryz.prog 151 = none := by kernel_rfl
theorem tr6 : arT Tryz.prog 152 = none := by kernel_rfl
theorem tr7 : arT Tryz.prog 22 = none := by kernel_rfl
theorem tr8 : arT Tryz.prog 23 = none := by kernel_rfl
theorem tr9 : arT Tryz.prog 50 = none := by kernel_rfl
theorem tr10 : arT Tryz.prog 65 = none := by kernel_rfl
theorem tr11 : elT Tryz.prog 100 = some (103, 1, [.slice none 0 0], 24) := by kernel_rfl
theorem tr12 : elT Tryz.prog 103 = some (4, 1, [.bool false], 1) := by kernel_rfl
theorem tr13 : elT Tryz.prog 107 = some (22, 1, [.slice none 0 0], 24) := by kernel_rfl
theorem tr14 : elT Tryz.prog 123 = some (152, 1, [.slice none 0 0], 24) := by kernel_rfl
theorem tr15 : elT Tryz.prog 151 = some (150, 3, [.int .i64 0, .int .i64 0, .int .i64 0], 24) := by kernel_rfl
theorem tr16 : elT Tryz.prog 152 = some (151, 1, [.slice none 0 0], 24) := by kernel_rfl
theorem tr17 : elT Tryz.prog 22 = some (3, 1, [.int .i64 0], 8) := by kernel_rfl
theorem tr18 : elT Tryz.prog 23 = some (55, 2, [.int .i64 0, .int .i64 0], 16) := by kernel_rfl
theorem tr19 : elT Tryz.prog 50 = some (49, 5, [.int .i64 0, .int .i64 0, .int .i64 0, .bool false, .slice none 0 0], 56) := by kernel_rfl
theorem tr20 : elT Tryz.prog 65 = some (68, 3, [.int .i64 0, .int .i64 0, .int .i64 0], 24) := by kernel_rfl
theorem tr21 : fldT Tryz.prog 55 0 = some (0, none) := by kernel_rfl
theorem tr22 : intT Tryz.prog 145 = some .u64 := by kernel_rfl
theorem tr23 : intT Tryz.prog 163 = some .u32 := by kernel_rfl
theorem tr26 : intT Tryz.prog 3 = some .i64 := by kernel_rfl
theorem tr28 : kdT Tryz.prog 145 = some 0 := by kernel_rfl
theorem tr30 : kdT Tryz.prog 166 = some 0 := by kernel_rfl
theorem tr34 : kdT Tryz.prog 3 = some 0 := by kernel_rfl
theorem tr35 : kdT Tryz.prog 35 = some 0 := by kernel_rfl
theorem tr36 : kdT Tryz.prog 4 = some 1 := by kernel_rfl
theorem tr37 : ldT Tryz.prog 100 = some none := by kernel_rfl
theorem tr38 : ldT Tryz.prog 103 = some none := by kernel_rfl
theorem tr39 : ldT Tryz.prog 107 = some none := by kernel_rfl
theorem tr40 : ldT Tryz.prog 132 = some (some 3) := by kernel_rfl
theorem tr41 : ldT Tryz.prog 150 = some (some 3) := by kernel_rfl
theorem tr42 : ldT Tryz.prog 151 = some none := by kernel_rfl
theorem tr43 : ldT Tryz.prog 152 = some none := by kernel_rfl
theorem tr45 : ldT Tryz.prog 22 = some none := by kernel_rfl
theorem tr46 : ldT Tryz.prog 23 = some none := by kernel_rfl
theorem tr47 : ldT Tryz.prog 25 = some (some 5) := by kernel_rfl
theorem tr48 : ldT Tryz.prog 27 = some (some 7) := by kernel_rfl
theorem tr49 : ldT Tryz.prog 29 = some (some 5) := by kernel_rfl
theorem tr50 : ldT Tryz.prog 3 = some none := by kernel_rfl
theorem tr51 : ldT Tryz.prog 31 = some (some 2) := by kernel_rfl
theorem tr52 : ldT Tryz.prog 35 = some none := by kernel_rfl
theorem tr53 : ldT Tryz.prog 4 = some none := by kernel_rfl
theorem tr55 : ldT Tryz.prog 45 = some (some 2) := by kernel_rfl
theorem tr56 : ldT Tryz.prog 49 = some (some 5) := by kernel_rfl
theorem tr58 : ldT Tryz.prog 55 = some (some 2) := by kernel_rfl
theorem tr59 : ldT Tryz.prog 68 = some (some 3) := by kernel_rfl
theorem tr60 : ldT Tryz.prog 69 = some none := by kernel_rfl
theorem tr61 : ldT Tryz.prog 83 = some (some 4) := by kernel_rfl
theorem tr62 : ldT Tryz.prog 88 = some (some 5) := by kernel_rfl
theorem tr63 : ldT Tryz.prog 90 = some (some 6) := by kernel_rfl
theorem tr64 : offT Tryz.prog 109 0 = some 0 := by kernel_rfl
theorem tr65 : offT Tryz.prog 109 1 = some 5 := by kernel_rfl
theorem tr66 : offT Tryz.prog 109 2 = some 12 := by kernel_rfl
theorem tr67 : offT Tryz.prog 109 3 = some 13 := by kernel_rfl
theorem tr68 : offT Tryz.prog 109 4 = some 14 := by kernel_rfl
theorem tr69 : offT Tryz.prog 109 5 = some 15 := by kernel_rfl
theorem tr70 : offT Tryz.prog 117 0 = some 0 := by kernel_rfl
theorem tr72 : offT Tryz.prog 117 2 = some 6 := by kernel_rfl
theorem tr73 : offT Tryz.prog 129 0 = some 0 := by kernel_rfl
theorem tr74 : offT Tryz.prog 129 1 = some 1 := by kernel_rfl
theorem tr75 : offT Tryz.prog 129 2 = some 2 := by kernel_rfl
theorem tr76 : offT Tryz.prog 132 0 = some 0 := by kernel_rfl
theorem tr77 : offT Tryz.prog 132 1 = some 1 := by kernel_rfl
theorem tr78 : offT Tryz.prog 132 2 = some 2 := by kernel_rfl
theorem tr79 : offT Tryz.prog 150 0 = some 0 := by kernel_rfl
theorem tr80 : offT Tryz.prog 150 1 = some 1 := by kernel_rfl
theorem tr81 : offT Tryz.prog 150 2 = some 2 := by kernel_rfl
theorem tr82 : offT Tryz.prog 25 0 = some 0 := by kernel_rfl
theorem tr83 : offT Tryz.prog 25 1 = some 1 := by kernel_rfl
theorem tr84 : offT Tryz.prog 25 2 = some 2 := by kernel_rfl
theorem tr85 : offT Tryz.prog 25 3 = some 3 := by kernel_rfl
theorem tr86 : offT Tryz.prog 25 4 = some 4 := by kernel_rfl
theorem tr87 : offT Tryz.prog 27 0 = some 0 := by kernel_rfl
theorem tr88 : offT Tryz.prog 27 1 = some 1 := by kernel_rfl
theorem tr89 : offT Tryz.prog 27 2 = some 2 := by kernel_rfl
theorem tr90 : offT Tryz.prog 27 3 = some 3 := by kernel_rfl
theorem tr91 : offT Tryz.prog 27 4 = some 4 := by kernel_rfl
theorem tr92 : offT Tryz.prog 27 5 = some 5 := by kernel_rfl
theorem tr93 : offT Tryz.prog 27 6 = some 6 := by kernel_rfl
theorem tr94 : offT Tryz.prog 29 0 = some 0 := by kernel_rfl
theorem tr95 : offT Tryz.prog 29 1 = some 1 := by kernel_rfl
theorem tr96 : offT Tryz.prog 29 2 = some 2 := by kernel_rfl
theorem tr97 : offT Tryz.prog 29 3 = some 3 := by kernel_rfl
theorem tr98 : offT Tryz.prog 29 4 = some 4 := by kernel_rfl
theorem tr99 : offT Tryz.prog 31 0 = some 0 := by kernel_rfl
theorem tr100 : offT Tryz.prog 31 1 = some 1 := by kernel_rfl
theorem tr101 : offT Tryz.prog 33 0 = some 0 := by kernel_rfl
theorem tr102 : offT Tryz.prog 33 1 = some 5 := by kernel_rfl
theorem tr103 : offT Tryz.prog 33 2 = some 6 := by kernel_rfl
theorem tr104 : offT Tryz.prog 33 3 = some 7 := by kernel_rfl
theorem tr111 : offT Tryz.prog 45 0 = some 0 := by kernel_rfl
theorem tr112 : offT Tryz.prog 45 1 = some 1 := by kernel_rfl
theorem tr113 : offT Tryz.prog 49 0 = some 0 := by kernel_rfl
theorem tr114 : offT Tryz.prog 49 1 = some 1 := by kernel_rfl
theorem tr115 : offT Tryz.prog 49 2 = some 2 := by kernel_rfl
theorem tr116 : offT Tryz.prog 49 3 = some 3 := by kernel_rfl
theorem tr117 : offT Tryz.prog 49 4 = some 4 := by kernel_rfl
theorem tr118 : offT Tryz.prog 55 0 = some 0 := by kernel_rfl
theorem tr119 : offT Tryz.prog 55 1 = some 1 := by kernel_rfl
theorem tr120 : offT Tryz.prog 83 0 = some 0 := by kernel_rfl
theorem tr121 : offT Tryz.prog 83 1 = some 1 := by kernel_rfl
theorem tr122 : offT Tryz.prog 83 2 = some 2 := by kernel_rfl
theorem tr123 : offT Tryz.prog 83 3 = some 3 := by kernel_rfl
theorem tr124 : offT Tryz.prog 88 0 = some 0 := by kernel_rfl
theorem tr125 : offT Tryz.prog 90 0 = some 0 := by kernel_rfl
theorem tr126 : offT Tryz.prog 90 1 = some 5 := by kernel_rfl
theorem tr127 : placesT Tryz.prog 109 = some [(0, 5), (5, 7), (12, 1), (13, 1), (14, 1), (15, 1)] := by kernel_rfl
theorem tr128 : placesT Tryz.prog 117 = some [(0, 5), (5, 1), (6, 1)] := by kernel_rfl
theorem tr129 : placesT Tryz.prog 129 = some [(0, 1), (1, 1), (2, 1)] := by kernel_rfl
theorem tr130 : placesT Tryz.prog 142 = some [(0, 1), (1, 1), (2, 1), (3, 1), (4, 1), (5, 1), (6, 1)] := by kernel_rfl
theorem tr131 : placesT Tryz.prog 150 = some [(0, 1), (1, 1), (2, 1)] := by kernel_rfl
theorem tr132 : placesT Tryz.prog 25 = some [(0, 1), (1, 1), (2, 1), (3, 1), (4, 1)] := by kernel_rfl
theorem tr134 : placesT Tryz.prog 45 = some [(0, 1), (1, 1)] := by kernel_rfl
theorem tr135 : placesT Tryz.prog 49 = some [(0, 1), (1, 1), (2, 1), (3, 1), (4, 1)] := by kernel_rfl
theorem tr136 : placesT Tryz.prog 55 = some [(0, 1), (1, 1)] := by kernel_rfl
theorem tr137 : placesT Tryz.prog 68 = some [(0, 1), (1, 1), (2, 1)] := by kernel_rfl
theorem tr138 : placesT Tryz.prog 83 = some [(0, 1), (1, 1), (2, 1), (3, 1)] := by kernel_rfl
theorem tr139 : placesT Tryz.prog 88 = some [(0, 5)] := by kernel_rfl
theorem tr140 : placesT Tryz.prog 90 = some [(0, 5), (5, 1)] := by kernel_rfl
theorem tr141 : slT Tryz.prog 100 = some (103, 1) := by kernel_rfl
theorem tr142 : slT Tryz.prog 103 = some (4, 1) := by kernel_rfl
theorem tr143 : slT Tryz.prog 107 = some (22, 1) := by kernel_rfl
theorem tr144 : slT Tryz.prog 123 = some (152, 1) := by kernel_rfl
theorem tr145 : slT Tryz.prog 133 = none := by kernel_rfl
theorem tr146 : slT Tryz.prog 142 = none := by kernel_rfl
theorem tr147 : slT Tryz.prog 151 = some (150, 3) := by kernel_rfl
theorem tr148 : slT Tryz.prog 152 = some (151, 1) := by kernel_rfl
theorem tr149 : slT Tryz.prog 22 = some (3, 1) := by kernel_rfl
theorem tr150 : slT Tryz.prog 23 = some (55, 2) := by kernel_rfl
theorem tr151 : slT Tryz.prog 50 = some (49, 5) := by kernel_rfl
theorem tr152 : slT Tryz.prog 65 = some (68, 3) := by kernel_rfl
theorem tr153 : szT Tryz.prog 100 = some 1 := by kernel_rfl
theorem tr154 : szT Tryz.prog 103 = some 1 := by kernel_rfl
theorem tr155 : szT Tryz.prog 107 = some 1 := by kernel_rfl
theorem tr156 : szT Tryz.prog 132 = some 3 := by kernel_rfl
theorem tr157 : szT Tryz.prog 142 = some 7 := by kernel_rfl
theorem tr158 : szT Tryz.prog 150 = some 3 := by kernel_rfl
theorem tr159 : szT Tryz.prog 151 = some 1 := by kernel_rfl
theorem tr161 : szT Tryz.prog 22 = some 1 := by kernel_rfl
theorem tr162 : szT Tryz.prog 25 = some 5 := by kernel_rfl
theorem tr163 : szT Tryz.prog 3 = some 1 := by kernel_rfl
theorem tr164 : szT Tryz.prog 35 = some 1 := by kernel_rfl
theorem tr165 : szT Tryz.prog 4 = some 1 := by kernel_rfl
theorem tr166 : szT Tryz.prog 45 = some 2 := by kernel_rfl
theorem tr167 : szT Tryz.prog 49 = some 5 := by kernel_rfl
theorem tr168 : szT Tryz.prog 55 = some 2 := by kernel_rfl
theorem tr169 : szT Tryz.prog 83 = some 4 := by kernel_rfl
theorem tr170 : szT Tryz.prog 88 = some 5 := by kernel_rfl
theorem tr171 : szT Tryz.prog 90 = some 6 := by kernel_rfl
theorem tr172 : zeroT Tryz.prog 100 = some [.slice none 0 0] := by kernel_rfl
theorem tr173 : zeroT Tryz.prog 103 = some [.slice none 0 0] := by kernel_rfl
theorem tr174 : zeroT Tryz.prog 109 = some [.int .i64 0, .int .i64 0, .slice none 0 0, .slice none 0 0, .slice none 0 0, .int .i64 0, .int .i64 0, .int .i64 0, .int .i64 0, .int .i64 0, .int .i64 0, .int .i64 0, .int .i64 0, .slice none 0 0, .slice none 0 0, .slice none 0 0] := by kernel_rfl
theorem tr175 : zeroT Tryz.prog 117 = some [.int .i64 0, .int .i64 0, .slice none 0 0, .slice none 0 0, .slice none 0 0, .slice none 0 0, .slice none 0 0] := by kernel_rfl
theorem tr176 : zeroT Tryz.prog 129 = some [.slice none 0 0, .slice none 0 0, .slice none 0 0] := by kernel_rfl
theorem tr177 : zeroT Tryz.prog 132 = some [.int .i64 0, .int .i64 0, .int .i64 0] := by kernel_rfl
theorem tr178 : zeroT Tryz.prog 142 = some [.bool false, .bool false, .bool false, .bool false, .bool false, .bool false, .bool false] := by kernel_rfl
theorem tr179 : zeroT Tryz.prog 150 = some [.int .i64 0, .int .i64 0, .int .i64 0] := by kernel_rfl
theorem tr181 : zeroT Tryz.prog 22 = some [.slice none 0 0] := by kernel_rfl
theorem tr182 : zeroT Tryz.prog 25 = some [.int .i64 0, .int .i64 0, .slice none 0 0, .slice none 0 0, .slice none 0 0] := by kernel_rfl
theorem tr183 : zeroT Tryz.prog 3 = some [.int .i64 0] := by kernel_rfl
theorem tr184 : zeroT Tryz.prog 35 = some [.int .i64 0] := by kernel_rfl
theorem tr186 : zeroT Tryz.prog 45 = some [.slice none 0 0, .int .i64 0] := by kernel_rfl
theorem tr187 : zeroT Tryz.prog 49 = some [.int .i64 0, .int .i64 0, .int .i64 0, .bool false, .slice none 0 0] := by kernel_rfl
theorem tr188 : zeroT Tryz.prog 55 = some [.int .i64 0, .int .i64 0] := by kernel_rfl
theorem tr189 : zeroT Tryz.prog 68 = some [.int .i64 0, .int .i64 0, .int .i64 0] := by kernel_rfl
theorem tr190 : zeroT Tryz.prog 83 = some [.int .i64 0, .int .i64 0, .int .i64 0, .bool false] := by kernel_rfl
theorem tr191 : zeroT Tryz.prog 88 = some [.int .i64 0, .int .i64 0, .slice none 0 0, .slice none 0 0, .slice none 0 0] := by kernel_rfl
theorem tr192 : zeroT Tryz.prog 90 = some [.int .i64 0, .int .i64 0, .slice none 0 0, .slice none 0 0, .slice none 0 0, .int .i64 0] := by kernel_rfl
theorem tf4 : (CallT Tryz.prog 10 = True) ∧ (CallT Tryz.prog 11 = True) ∧ (CallT Tryz.prog 12 = True) ∧ (CallT Tryz.prog 13 = True) ∧ (CallT Tryz.prog 5 = True) ∧ (CallT Tryz.prog 6 = True) ∧ (CallT Tryz.prog 7 = True) ∧ (arT Tryz.prog 22 = none) ∧ (arT Tryz.prog 23 = none) ∧ (elT Tryz.prog 22 = some (3, 1, [.int .i64 0], 8)) ∧ (elT Tryz.prog 50 = some (49, 5, [.int .i64 0, .int .i64 0, .int .i64 0, .bool false, .slice none 0 0], 56)) ∧ (kdT Tryz.prog 3 = some 0) ∧ (kdT Tryz.prog 35 = some 0) ∧ (ldT Tryz.prog 22 = some none) ∧ (ldT Tryz.prog 25 = some (some 5)) ∧ (ldT Tryz.prog 27 = some (some 7)) ∧ (ldT Tryz.prog 29 = some (some 5)) ∧ (ldT Tryz.prog 3 = some none) ∧ (ldT Tryz.prog 31 = some (some 2)) ∧ (offT Tryz.prog 25 2 = some 2) ∧ (offT Tryz.prog 27 0 = some 0) ∧ (offT Tryz.prog 27 2 = some 2) ∧ (offT Tryz.prog 29 0 = some 0) ∧ (offT Tryz.prog 31 0 = some 0) ∧ (offT Tryz.prog 33 0 = some 0) ∧ (offT Tryz.prog 33 1 = some 5) ∧ (offT Tryz.prog 33 2 = some 6) ∧ (offT Tryz.prog 33 3 = some 7) ∧ (offT Tryz.prog 45 0 = some 0) ∧ (offT Tryz.prog 45 1 = some 1) ∧ (offT Tryz.prog 55 0 = some 0) ∧ (offT Tryz.prog 55 1 = some 1) ∧ (placesT Tryz.prog 49 = some [(0, 1), (1, 1), (2, 1), (3, 1), (4, 1)]) ∧ (slT Tryz.prog 22 = some (3, 1)) ∧ (slT Tryz.prog 23 = some (55, 2)) ∧ (szT Tryz.prog 45 = some 2) ∧ (zeroT Tryz.prog 45 = some [.slice none 0 0, .int .i64 0]) ∧ (zeroT Tryz.prog 49 = some [.int .i64 0, .int .i64 0, .int .i64 0, .bool false, .slice none 0 0]) := ⟨eq_true Tryz.call10, eq_true Tryz.call11, eq_true Tryz.call12, eq_true Tryz.call13, eq_true Tryz.call5, eq_true Tryz.call6, eq_true Tryz.call7, tr7, tr8, tr17, tr19, tr34, tr35, tr45, tr47, tr48, tr49, tr50, tr51, tr84, tr87, tr89, tr94, tr99, tr101, tr102, tr103, tr104, tr111, tr112, tr118, tr119, tr135, tr149, tr150, tr166, tr186, tr187⟩
theorem tf5 : (CallT Tryz.prog 14 = True) ∧ (CallT Tryz.prog 15 = True) ∧ (kdT Tryz.prog 3 = some 0) ∧ (kdT Tryz.prog 35 = some 0) ∧ (ldT Tryz.prog 22 = some none) ∧ (ldT Tryz.prog 23 = some none) ∧ (ldT Tryz.prog 25 = some (some 5)) ∧ (offT Tryz.prog 25 2 = some 2) ∧ (offT Tryz.prog 25 3 = some 3) ∧ (offT Tryz.prog 25 4 = some 4) ∧ (slT Tryz.prog 22 = some (3, 1)) ∧ (slT Tryz.prog 23 = some (55, 2)) := ⟨eq_true Tryz.call14, eq_true Tryz.call15, tr34, tr35, tr45, tr46, tr47, tr84, tr85, tr86, tr149, tr150⟩
theorem tf6 : (CallT Tryz.prog 16 = True) ∧ (CallT Tryz.prog 17 = True) ∧ (CallT Tryz.prog 18 = True) ∧ (CallT Tryz.prog 19 = True) ∧ (kdT Tryz.prog 35 = some 0) ∧ (ldT Tryz.prog 25 = some (some 5)) ∧ (ldT Tryz.prog 27 = some (some 7)) ∧ (ldT Tryz.prog 29 = some (some 5)) ∧ (ldT Tryz.prog 31 = some (some 2)) := ⟨eq_true Tryz.call16, eq_true Tryz.call17, eq_true Tryz.call18, eq_true Tryz.call19, tr35, tr47, tr48, tr49, tr51⟩
theorem tf7 : (CallT Tryz.prog 20 = True) ∧ (CallT Tryz.prog 21 = True) ∧ (CallT Tryz.prog 22 = True) ∧ (arT Tryz.prog 22 = none) ∧ (arT Tryz.prog 65 = none) ∧ (kdT Tryz.prog 3 = some 0) ∧ (kdT Tryz.prog 35 = some 0) ∧ (ldT Tryz.prog 25 = some (some 5)) ∧ (ldT Tryz.prog 3 = some none) ∧ (ldT Tryz.prog 68 = some (some 3)) ∧ (placesT Tryz.prog 68 = some [(0, 1), (1, 1), (2, 1)]) ∧ (slT Tryz.prog 22 = some (3, 1)) ∧ (slT Tryz.prog 65 = some (68, 3)) ∧ (szT Tryz.prog 25 = some 5) ∧ (zeroT Tryz.prog 25 = some [.int .i64 0, .int .i64 0, .slice none 0 0, .slice none 0 0, .slice none 0 0]) ∧ (zeroT Tryz.prog 68 = some [.int .i64 0, .int .i64 0, .int .i64 0]) := ⟨eq_true Tryz.call20, eq_true Tryz.call21, eq_true Tryz.call22, tr7, tr10, tr34, tr35, tr47, tr50, tr59, tr137, tr149, tr152, tr162, tr182, tr189⟩
theorem tf10 : (CallT Tryz.prog 23 = True) ∧ (CallT Tryz.prog 27 = True) ∧ (CallT Tryz.prog 28 = True) ∧ (kdT Tryz.prog 3 = some 0) ∧ (kdT Tryz.prog 35 = some 0) ∧ (ldT Tryz.prog 22 = some none) ∧ (ldT Tryz.prog 25 = some (some 5)) ∧ (ldT Tryz.prog 27 = some (some 7)) ∧ (ldT Tryz.prog 29 = some (some 5)) ∧ (ldT Tryz.prog 3 = some none) ∧ (ldT Tryz.prog 31 = some (some 2)) ∧ (ldT Tryz.prog 45 = some (some 2)) ∧ (offT Tryz.prog 25 2 = some 2) ∧ (offT Tryz.prog 31 0 = some 0) ∧ (offT Tryz.prog 31 1 = some 1) ∧ (slT Tryz.prog 22 = some (3, 1)) ∧ (szT Tryz.prog 45 = some 2) ∧ (zeroT Tryz.prog 45 = some [.slice none 0 0, .int .i64 0]) := ⟨eq_true Tryz.call23, eq_true Tryz.call27, eq_true Tryz.call28, tr34, tr35, tr45, tr47, tr48, tr49, tr50, tr51, tr55, tr84, tr99, tr100, tr149, tr166, tr186⟩
theorem tf11 : (CallT Tryz.prog 29 = True) ∧ (ldT Tryz.prog 25 = some (some 5)) := ⟨eq_true Tryz.call29, tr47⟩
theorem tf12 : (CallT Tryz.prog 29 = True) ∧ (CallT Tryz.prog 30 = True) ∧ (CallT Tryz.prog 31 = True) ∧ (CallT Tryz.prog 32 = True) ∧ (CallT Tryz.prog 33 = True) ∧ (arT Tryz.prog 23 = none) ∧ (elT Tryz.prog 23 = some (55, 2, [.int .i64 0, .int .i64 0], 16)) ∧ (kdT Tryz.prog 3 = some 0) ∧ (kdT Tryz.prog 35 = some 0) ∧ (ldT Tryz.prog 23 = some none) ∧ (ldT Tryz.prog 25 = some (some 5)) ∧ (ldT Tryz.prog 3 = some none) ∧ (offT Tryz.prog 25 3 = some 3) ∧ (offT Tryz.prog 55 1 = some 1) ∧ (placesT Tryz.prog 55 = some [(0, 1), (1, 1)]) ∧ (slT Tryz.prog 23 = some (55, 2)) ∧ (szT Tryz.prog 3 = some 1) ∧ (zeroT Tryz.prog 3 = some [.int .i64 0]) ∧ (zeroT Tryz.prog 55 = some [.int .i64 0, .int .i64 0]) := ⟨eq_true Tryz.call29, eq_true Tryz.call30, eq_true Tryz.call31, eq_true Tryz.call32, eq_true Tryz.call33, tr8, tr18, tr34, tr35, tr46, tr47, tr50, tr85, tr119, tr136, tr150, tr163, tr183, tr188⟩
theorem tf13 : (CallT Tryz.prog 36 = True) ∧ (CallT Tryz.prog 37 = True) ∧ (CallT Tryz.prog 38 = True) ∧ (CallT Tryz.prog 39 = True) ∧ (arT Tryz.prog 22 = none) ∧ (elT Tryz.prog 22 = some (3, 1, [.int .i64 0], 8)) ∧ (kdT Tryz.prog 3 = some 0) ∧ (kdT Tryz.prog 35 = some 0) ∧ (ldT Tryz.prog 22 = some none) ∧ (ldT Tryz.prog 25 = some (some 5)) ∧ (ldT Tryz.prog 3 = some none) ∧ (ldT Tryz.prog 88 = some (some 5)) ∧ (ldT Tryz.prog 90 = some (some 6)) ∧ (offT Tryz.prog 90 0 = some 0) ∧ (slT Tryz.prog 22 = some (3, 1)) ∧ (szT Tryz.prog 22 = some 1) ∧ (szT Tryz.prog 3 = some 1) ∧ (szT Tryz.prog 90 = some 6) ∧ (zeroT Tryz.prog 22 = some [.slice none 0 0]) ∧ (zeroT Tryz.prog 3 = some [.int .i64 0]) ∧ (zeroT Tryz.prog 90 = some [.int .i64 0, .int .i64 0, .slice none 0 0, .slice none 0 0, .slice none 0 0, .int .i64 0]) := ⟨eq_true Tryz.call36, eq_true Tryz.call37, eq_true Tryz.call38, eq_true Tryz.call39, tr7, tr17, tr34, tr35, tr45, tr47, tr50, tr62, tr63, tr125, tr149, tr161, tr163, tr171, tr181, tr183, tr192⟩
theorem tf14 : (CallT Tryz.prog 40 = True) ∧ (arT Tryz.prog 22 = none) ∧ (arT Tryz.prog 23 = none) ∧ (kdT Tryz.prog 3 = some 0) ∧ (ldT Tryz.prog 22 = some none) ∧ (ldT Tryz.prog 23 = some none) ∧ (ldT Tryz.prog 3 = some none) ∧ (offT Tryz.prog 25 0 = some 0) ∧ (offT Tryz.prog 25 1 = some 1) ∧ (offT Tryz.prog 25 2 = some 2) ∧ (offT Tryz.prog 25 3 = some 3) ∧ (offT Tryz.prog 25 4 = some 4) ∧ (offT Tryz.prog 55 0 = some 0) ∧ (offT Tryz.prog 55 1 = some 1) ∧ (slT Tryz.prog 22 = some (3, 1)) ∧ (slT Tryz.prog 23 = some (55, 2)) := ⟨eq_true Tryz.call40, tr7, tr8, tr34, tr45, tr46, tr50, tr82, tr83, tr84, tr85, tr86, tr118, tr119, tr149, tr150⟩
theorem tf15 : (kdT Tryz.prog 3 = some 0) ∧ (ldT Tryz.prog 3 = some none) ∧ (offT Tryz.prog 25 0 = some 0) ∧ (offT Tryz.prog 25 1 = some 1) := ⟨tr34, tr50, tr82, tr83⟩
theorem tf16 : (CallT Tryz.prog 14 = True) ∧ (CallT Tryz.prog 41 = True) ∧ (CallT Tryz.prog 42 = True) ∧ (kdT Tryz.prog 35 = some 0) ∧ (ldT Tryz.prog 25 = some (some 5)) ∧ (ldT Tryz.prog 27 = some (some 7)) ∧ (ldT Tryz.prog 29 = some (some 5)) := ⟨eq_true Tryz.call14, eq_true Tryz.call41, eq_true Tryz.call42, tr35, tr47, tr48, tr49⟩
theorem tf17 : (CallT Tryz.prog 40 = True) ∧ (kdT Tryz.prog 3 = some 0) ∧ (ldT Tryz.prog 23 = some none) ∧ (offT Tryz.prog 25 3 = some 3) ∧ (slT Tryz.prog 23 = some (55, 2)) := ⟨eq_true Tryz.call40, tr34, tr46, tr85, tr150⟩
theorem tf18 : (kdT Tryz.prog 3 = some 0) := tr34
theorem tf19 : (CallT Tryz.prog 18 = True) ∧ (CallT Tryz.prog 43 = True) ∧ (ldT Tryz.prog 25 = some (some 5)) ∧ (ldT Tryz.prog 3 = some none) ∧ (offT Tryz.prog 31 0 = some 0) ∧ (offT Tryz.prog 31 1 = some 1) := ⟨eq_true Tryz.call18, eq_true Tryz.call43, tr47, tr50, tr99, tr100⟩
theorem tf20 : (CallT Tryz.prog 44 = True) ∧ (elT Tryz.prog 22 = some (3, 1, [.int .i64 0], 8)) ∧ (elT Tryz.prog 50 = some (49, 5, [.int .i64 0, .int .i64 0, .int .i64 0, .bool false, .slice none 0 0], 56)) ∧ (ldT Tryz.prog 25 = some (some 5)) ∧ (placesT Tryz.prog 49 = some [(0, 1), (1, 1), (2, 1), (3, 1), (4, 1)]) ∧ (szT Tryz.prog 25 = some 5) ∧ (zeroT Tryz.prog 25 = some [.int .i64 0, .int .i64 0, .slice none 0 0, .slice none 0 0, .slice none 0 0]) ∧ (zeroT Tryz.prog 49 = some [.int .i64 0, .int .i64 0, .int .i64 0, .bool false, .slice none 0 0]) := ⟨eq_true Tryz.call44, tr17, tr19, tr47, tr135, tr162, tr182, tr187⟩
theorem tf21 : (CallT Tryz.prog 29 = True) ∧ (CallT Tryz.prog 34 = True) ∧ (CallT Tryz.prog 45 = True) ∧ (arT Tryz.prog 50 = none) ∧ (elT Tryz.prog 65 = some (68, 3, [.int .i64 0, .int .i64 0, .int .i64 0], 24)) ∧ (kdT Tryz.prog 3 = some 0) ∧ (kdT Tryz.prog 35 = some 0) ∧ (ldT Tryz.prog 23 = some none) ∧ (ldT Tryz.prog 25 = some (some 5)) ∧ (ldT Tryz.prog 49 = some (some 5)) ∧ (ldT Tryz.prog 83 = some (some 4)) ∧ (offT Tryz.prog 25 3 = some 3) ∧ (placesT Tryz.prog 68 = some [(0, 1), (1, 1), (2, 1)]) ∧ (slT Tryz.prog 23 = some (55, 2)) ∧ (slT Tryz.prog 50 = some (49, 5)) ∧ (szT Tryz.prog 49 = some 5) ∧ (szT Tryz.prog 83 = some 4) ∧ (zeroT Tryz.prog 49 = some [.int .i64 0, .int .i64 0, .int .i64 0, .bool false, .slice none 0 0]) ∧ (zeroT Tryz.prog 68 = some [.int .i64 0, .int .i64 0, .int .i64 0]) ∧ (zeroT Tryz.prog 83 = some [.int .i64 0, .int .i64 0, .int .i64 0, .bool false]) := ⟨eq_true Tryz.call29, eq_true Tryz.call34, eq_true Tryz.call45, tr9, tr20, tr34, tr35, tr46, tr47, tr56, tr61, tr85, tr137, tr150, tr151, tr167, tr169, tr187, tr189, tr190⟩
theorem tf22 : (CallT Tryz.prog 36 = True) ∧ (CallT Tryz.prog 46 = True) ∧ (CallT Tryz.prog 47 = True) ∧ (arT Tryz.prog 103 = none) ∧ (elT Tryz.prog 100 = some (103, 1, [.slice none 0 0], 24)) ∧ (elT Tryz.prog 22 = some (3, 1, [.int .i64 0], 8)) ∧ (kdT Tryz.prog 35 = some 0) ∧ (ldT Tryz.prog 100 = some none) ∧ (ldT Tryz.prog 22 = some none) ∧ (ldT Tryz.prog 25 = some (some 5)) ∧ (ldT Tryz.prog 3 = some none) ∧ (ldT Tryz.prog 35 = some none) ∧ (ldT Tryz.prog 4 = some none) ∧ (ldT Tryz.prog 90 = some (some 6)) ∧ (slT Tryz.prog 103 = some (4, 1)) ∧ (szT Tryz.prog 100 = some 1) ∧ (szT Tryz.prog 22 = some 1) ∧ (szT Tryz.prog 35 = some 1) ∧ (szT Tryz.prog 90 = some 6) ∧ (zeroT Tryz.prog 100 = some [.slice none 0 0]) ∧ (zeroT Tryz.prog 22 = some [.slice none 0 0]) ∧ (zeroT Tryz.prog 35 = some [.int .i64 0]) ∧ (zeroT Tryz.prog 90 = some [.int .i64 0, .int .i64 0, .slice none 0 0, .slice none 0 0, .slice none 0 0, .int .i64 0]) := ⟨eq_true Tryz.call36, eq_true Tryz.call46, eq_true Tryz.call47, tr1, tr11, tr17, tr35, tr37, tr45, tr47, tr50, tr52, tr53, tr63, tr142, tr153, tr161, tr164, tr171, tr172, tr181, tr184, tr192⟩
theorem tf23 : (CallT Tryz.prog 27 = True) ∧ (CallT Tryz.prog 48 = True) ∧ (CallT Tryz.prog 49 = True) ∧ (CallT Tryz.prog 50 = True) ∧ (CallT Tryz.prog 51 = True) ∧ (CallT Tryz.prog 52 = True) ∧ (arT Tryz.prog 103 = none) ∧ (arT Tryz.prog 22 = none) ∧ (arT Tryz.prog 23 = none) ∧ (elT Tryz.prog 100 = some (103, 1, [.slice none 0 0], 24)) ∧ (elT Tryz.prog 103 = some (4, 1, [.bool false], 1)) ∧ (elT Tryz.prog 107 = some (22, 1, [.slice none 0 0], 24)) ∧ (elT Tryz.prog 22 = some (3, 1, [.int .i64 0], 8)) ∧ (kdT Tryz.prog 3 = some 0) ∧ (kdT Tryz.prog 35 = some 0) ∧ (ldT Tryz.prog 100 = some none) ∧ (ldT Tryz.prog 103 = some none) ∧ (ldT Tryz.prog 107 = some none) ∧ (ldT Tryz.prog 22 = some none) ∧ (ldT Tryz.prog 23 = some none) ∧ (ldT Tryz.prog 25 = some (some 5)) ∧ (ldT Tryz.prog 27 = some (some 7)) ∧ (ldT Tryz.prog 29 = some (some 5)) ∧ (ldT Tryz.prog 3 = some none) ∧ (ldT Tryz.prog 55 = some (some 2)) ∧ (offT Tryz.prog 109 3 = some 13) ∧ (offT Tryz.prog 109 4 = some 14) ∧ (offT Tryz.prog 109 5 = some 15) ∧ (offT Tryz.prog 25 2 = some 2) ∧ (offT Tryz.prog 25 3 = some 3) ∧ (offT Tryz.prog 25 4 = some 4) ∧ (offT Tryz.prog 27 0 = some 0) ∧ (offT Tryz.prog 27 1 = some 1) ∧ (offT Tryz.prog 29 0 = some 0) ∧ (offT Tryz.prog 29 1 = some 1) ∧ (offT Tryz.prog 55 0 = some 0) ∧ (offT Tryz.prog 55 1 = some 1) ∧ (placesT Tryz.prog 109 = some [(0, 5), (5, 7), (12, 1), (13, 1), (14, 1), (15, 1)]) ∧ (slT Tryz.prog 103 = some (4, 1)) ∧ (slT Tryz.prog 22 = some (3, 1)) ∧ (slT Tryz.prog 23 = some (55, 2)) ∧ (szT Tryz.prog 100 = some 1) ∧ (szT Tryz.prog 107 = some 1) ∧ (szT Tryz.prog 3 = some 1) ∧ (szT Tryz.prog 4 = some 1) ∧ (szT Tryz.prog 55 = some 2) ∧ (zeroT Tryz.prog 109 = some [.int .i64 0, .int .i64 0, .slice none 0 0, .slice none 0 0, .slice none 0 0, .int .i64 0, .int .i64 0, .int .i64 0, .int .i64 0, .int .i64 0, .int .i64 0, .int .i64 0, .int .i64 0, .slice none 0 0, .slice none 0 0, .slice none 0 0]) ∧ (zeroT Tryz.prog 55 = some [.int .i64 0, .int .i64 0]) := ⟨eq_true Tryz.call27, eq_true Tryz.call48, eq_true Tryz.call49, eq_true Tryz.call50, eq_true Tryz.call51, eq_true Tryz.call52, tr1, tr7, tr8, tr11, tr12, tr13, tr17, tr34, tr35, tr37, tr38, tr39, tr45, tr46, tr47, tr48, tr49, tr50, tr58, tr67, tr68, tr69, tr84, tr85, tr86, tr87, tr88, tr94, tr95, tr118, tr119, tr127, tr142, tr149, tr150, tr153, tr155, tr163, tr165, tr168, tr174, tr188⟩
theorem tf24 : (CallT Tryz.prog 53 = True) ∧ (arT Tryz.prog 100 = none) ∧ (arT Tryz.prog 103 = none) ∧ (arT Tryz.prog 107 = none) ∧ (arT Tryz.prog 22 = none) ∧ (elT Tryz.prog 103 = some (4, 1, [.bool false], 1)) ∧ (elT Tryz.prog 22 = some (3, 1, [.int .i64 0], 8)) ∧ (kdT Tryz.prog 3 = some 0) ∧ (ldT Tryz.prog 100 = some none) ∧ (ldT Tryz.prog 103 = some none) ∧ (ldT Tryz.prog 107 = some none) ∧ (ldT Tryz.prog 22 = some none) ∧ (ldT Tryz.prog 23 = some none) ∧ (ldT Tryz.prog 3 = some none) ∧ (ldT Tryz.prog 4 = some none) ∧ (offT Tryz.prog 109 0 = some 0) ∧ (offT Tryz.prog 109 2 = some 12) ∧ (offT Tryz.prog 109 3 = some 13) ∧ (offT Tryz.prog 109 4 = some 14) ∧ (offT Tryz.prog 109 5 = some 15) ∧ (offT Tryz.prog 25 2 = some 2) ∧ (offT Tryz.prog 25 3 = some 3) ∧ (slT Tryz.prog 100 = some (103, 1)) ∧ (slT Tryz.prog 103 = some (4, 1)) ∧ (slT Tryz.prog 107 = some (22, 1)) ∧ (slT Tryz.prog 22 = some (3, 1)) ∧ (slT Tryz.prog 23 = some (55, 2)) ∧ (szT Tryz.prog 3 = some 1) ∧ (szT Tryz.prog 4 = some 1) := ⟨eq_true Tryz.call53, tr0, tr1, tr2, tr7, tr12, tr17, tr34, tr37, tr38, tr39, tr45, tr46, tr50, tr53, tr64, tr66, tr67, tr68, tr69, tr84, tr85, tr141, tr142, tr143, tr149, tr150, tr163, tr165⟩
theorem tf27 : (kdT Tryz.prog 3 = some 0) := tr34
theorem tf28 : (CallT Tryz.prog 24 = True) ∧ (CallT Tryz.prog 57 = True) ∧ (CallT Tryz.prog 58 = True) ∧ (arT Tryz.prog 103 = none) ∧ (arT Tryz.prog 22 = none) ∧ (kdT Tryz.prog 3 = some 0) ∧ (ldT Tryz.prog 103 = some none) ∧ (ldT Tryz.prog 3 = some none) ∧ (ldT Tryz.prog 31 = some (some 2)) ∧ (ldT Tryz.prog 4 = some none) ∧ (ldT Tryz.prog 45 = some (some 2)) ∧ (offT Tryz.prog 109 1 = some 5) ∧ (offT Tryz.prog 109 3 = some 13) ∧ (offT Tryz.prog 27 4 = some 4) ∧ (offT Tryz.prog 31 0 = some 0) ∧ (offT Tryz.prog 45 1 = some 1) ∧ (placesT Tryz.prog 45 = some [(0, 1), (1, 1)]) ∧ (slT Tryz.prog 103 = some (4, 1)) ∧ (slT Tryz.prog 22 = some (3, 1)) ∧ (szT Tryz.prog 45 = some 2) ∧ (zeroT Tryz.prog 45 = some [.slice none 0 0, .int .i64 0]) := ⟨eq_true Tryz.call24, eq_true Tryz.call57, eq_true Tryz.call58, tr1, tr7, tr34, tr38, tr50, tr51, tr53, tr55, tr65, tr67, tr91, tr99, tr112, tr134, tr142, tr149, tr166, tr186⟩
theorem tf29 : (CallT Tryz.prog 48 = True) ∧ (CallT Tryz.prog 52 = True) ∧ (CallT Tryz.prog 59 = True) ∧ (CallT Tryz.prog 60 = True) ∧ (CallT Tryz.prog 61 = True) ∧ (elT Tryz.prog 107 = some (22, 1, [.slice none 0 0], 24)) ∧ (elT Tryz.prog 22 = some (3, 1, [.int .i64 0], 8)) ∧ (kdT Tryz.prog 3 = some 0) ∧ (kdT Tryz.prog 35 = some 0) ∧ (ldT Tryz.prog 107 = some none) ∧ (ldT Tryz.prog 22 = some none) ∧ (ldT Tryz.prog 25 = some (some 5)) ∧ (offT Tryz.prog 117 2 = some 6) ∧ (offT Tryz.prog 25 2 = some 2) ∧ (placesT Tryz.prog 117 = some [(0, 5), (5, 1), (6, 1)]) ∧ (slT Tryz.prog 22 = some (3, 1)) ∧ (slT Tryz.prog 50 = some (49, 5)) ∧ (szT Tryz.prog 107 = some 1) ∧ (zeroT Tryz.prog 117 = some [.int .i64 0, .int .i64 0, .slice none 0 0, .slice none 0 0, .slice none 0 0, .slice none 0 0, .slice none 0 0]) := ⟨eq_true Tryz.call48, eq_true Tryz.call52, eq_true Tryz.call59, eq_true Tryz.call60, eq_true Tryz.call61, tr13, tr17, tr34, tr35, tr39, tr45, tr47, tr72, tr84, tr128, tr149, tr151, tr155, tr175⟩
theorem tf30 : (kdT Tryz.prog 3 = some 0) := tr34
theorem tf31 : (CallT Tryz.prog 30 = True) ∧ (kdT Tryz.prog 3 = some 0) ∧ (ldT Tryz.prog 22 = some none) ∧ (offT Tryz.prog 117 0 = some 0) ∧ (offT Tryz.prog 25 2 = some 2) ∧ (slT Tryz.prog 22 = some (3, 1)) := ⟨eq_true Tryz.call30, tr34, tr45, tr70, tr84, tr149⟩
theorem tf32 : (CallT Tryz.prog 62 = True) ∧ (kdT Tryz.prog 3 = some 0) := ⟨eq_true Tryz.call62, tr34⟩
theorem tf33 : (CallT Tryz.prog 34 = True) ∧ (CallT Tryz.prog 35 = True) ∧ (kdT Tryz.prog 3 = some 0) ∧ (ldT Tryz.prog 3 = some none) ∧ (ldT Tryz.prog 49 = some (some 5)) ∧ (ldT Tryz.prog 83 = some (some 4)) ∧ (offT Tryz.prog 83 0 = some 0) ∧ (szT Tryz.prog 83 = some 4) ∧ (zeroT Tryz.prog 83 = some [.int .i64 0, .int .i64 0, .int .i64 0, .bool false]) := ⟨eq_true Tryz.call34, eq_true Tryz.call35, tr34, tr50, tr56, tr61, tr120, tr169, tr190⟩
theorem tf34 : (CallT Tryz.prog 30 = True) ∧ (arT Tryz.prog 22 = none) ∧ (kdT Tryz.prog 3 = some 0) ∧ (ldT Tryz.prog 22 = some none) ∧ (ldT Tryz.prog 3 = some none) ∧ (ldT Tryz.prog 4 = some none) ∧ (ldT Tryz.prog 83 = some (some 4)) ∧ (offT Tryz.prog 49 0 = some 0) ∧ (offT Tryz.prog 49 1 = some 1) ∧ (offT Tryz.prog 49 3 = some 3) ∧ (offT Tryz.prog 49 4 = some 4) ∧ (offT Tryz.prog 83 1 = some 1) ∧ (placesT Tryz.prog 83 = some [(0, 1), (1, 1), (2, 1), (3, 1)]) ∧ (slT Tryz.prog 22 = some (3, 1)) ∧ (szT Tryz.prog 3 = some 1) ∧ (szT Tryz.prog 83 = some 4) ∧ (zeroT Tryz.prog 83 = some [.int .i64 0, .int .i64 0, .int .i64 0, .bool false]) := ⟨eq_true Tryz.call30, tr7, tr34, tr45, tr50, tr53, tr61, tr113, tr114, tr116, tr117, tr121, tr138, tr149, tr163, tr169, tr190⟩
theorem tf35 : (kdT Tryz.prog 3 = some 0) ∧ (ldT Tryz.prog 3 = some none) ∧ (ldT Tryz.prog 4 = some none) ∧ (offT Tryz.prog 83 1 = some 1) ∧ (offT Tryz.prog 83 2 = some 2) ∧ (offT Tryz.prog 83 3 = some 3) := ⟨tr34, tr50, tr53, tr121, tr122, tr123⟩
theorem tf36 : (CallT Tryz.prog 63 = True) ∧ (elT Tryz.prog 22 = some (3, 1, [.int .i64 0], 8)) ∧ (ldT Tryz.prog 25 = some (some 5)) ∧ (ldT Tryz.prog 88 = some (some 5)) ∧ (ldT Tryz.prog 90 = some (some 6)) ∧ (placesT Tryz.prog 129 = some [(0, 1), (1, 1), (2, 1)]) ∧ (placesT Tryz.prog 90 = some [(0, 5), (5, 1)]) ∧ (szT Tryz.prog 88 = some 5) ∧ (szT Tryz.prog 90 = some 6) ∧ (zeroT Tryz.prog 129 = some [.slice none 0 0, .slice none 0 0, .slice none 0 0]) ∧ (zeroT Tryz.prog 88 = some [.int .i64 0, .int .i64 0, .slice none 0 0, .slice none 0 0, .slice none 0 0]) ∧ (zeroT Tryz.prog 90 = some [.int .i64 0, .int .i64 0, .slice none 0 0, .slice none 0 0, .slice none 0 0, .int .i64 0]) := ⟨eq_true Tryz.call63, tr17, tr47, tr62, tr63, tr129, tr140, tr170, tr171, tr176, tr191, tr192⟩
theorem tf37 : (CallT Tryz.prog 53 = True) ∧ (elT Tryz.prog 22 = some (3, 1, [.int .i64 0], 8)) ∧ (ldT Tryz.prog 22 = some none) ∧ (offT Tryz.prog 25 2 = some 2) ∧ (offT Tryz.prog 88 0 = some 0) ∧ (slT Tryz.prog 22 = some (3, 1)) := ⟨eq_true Tryz.call53, tr17, tr45, tr84, tr124, tr149⟩
theorem tf38 : (CallT Tryz.prog 64 = True) ∧ (fldT Tryz.prog 55 0 = some (0, none)) ∧ (kdT Tryz.prog 3 = some 0) ∧ (ldT Tryz.prog 3 = some none) ∧ (ldT Tryz.prog 88 = some (some 5)) ∧ (offT Tryz.prog 90 0 = some 0) ∧ (offT Tryz.prog 90 1 = some 5) := ⟨eq_true Tryz.call64, tr21, tr34, tr50, tr62, tr125, tr126⟩
theorem tf39 : (CallT Tryz.prog 65 = True) := eq_true Tryz.call65
theorem tf40 : (kdT Tryz.prog 3 = some 0) := tr34
theorem tf41 : (CallT Tryz.prog 18 = True) ∧ (CallT Tryz.prog 67 = True) ∧ (ldT Tryz.prog 3 = some none) ∧ (offT Tryz.prog 27 0 = some 0) ∧ (offT Tryz.prog 27 1 = some 1) ∧ (offT Tryz.prog 27 2 = some 2) ∧ (offT Tryz.prog 27 3 = some 3) ∧ (offT Tryz.prog 27 4 = some 4) ∧ (offT Tryz.prog 27 5 = some 5) ∧ (offT Tryz.prog 27 6 = some 6) := ⟨eq_true Tryz.call18, eq_true Tryz.call67, tr50, tr87, tr88, tr89, tr90, tr91, tr92, tr93⟩
theorem tf42 : (CallT Tryz.prog 40 = True) ∧ (CallT Tryz.prog 43 = True) ∧ (CallT Tryz.prog 67 = True) ∧ (kdT Tryz.prog 3 = some 0) ∧ (ldT Tryz.prog 25 = some (some 5)) ∧ (ldT Tryz.prog 3 = some none) ∧ (offT Tryz.prog 29 0 = some 0) ∧ (offT Tryz.prog 29 1 = some 1) ∧ (offT Tryz.prog 29 2 = some 2) ∧ (offT Tryz.prog 29 3 = some 3) ∧ (offT Tryz.prog 29 4 = some 4) := ⟨eq_true Tryz.call40, eq_true Tryz.call43, eq_true Tryz.call67, tr34, tr47, tr50, tr94, tr95, tr96, tr97, tr98⟩
theorem tf43 : (CallT Tryz.prog 15 = True) ∧ (CallT Tryz.prog 40 = True) ∧ (kdT Tryz.prog 3 = some 0) ∧ (ldT Tryz.prog 25 = some (some 5)) := ⟨eq_true Tryz.call15, eq_true Tryz.call40, tr34, tr47⟩
theorem tf44 : (elT Tryz.prog 22 = some (3, 1, [.int .i64 0], 8)) ∧ (elT Tryz.prog 23 = some (55, 2, [.int .i64 0, .int .i64 0], 16)) ∧ (ldT Tryz.prog 25 = some (some 5)) ∧ (placesT Tryz.prog 25 = some [(0, 1), (1, 1), (2, 1), (3, 1), (4, 1)]) ∧ (placesT Tryz.prog 55 = some [(0, 1), (1, 1)]) ∧ (szT Tryz.prog 25 = some 5) ∧ (zeroT Tryz.prog 25 = some [.int .i64 0, .int .i64 0, .slice none 0 0, .slice none 0 0, .slice none 0 0]) ∧ (zeroT Tryz.prog 55 = some [.int .i64 0, .int .i64 0]) := ⟨tr17, tr18, tr47, tr132, tr136, tr162, tr182, tr188⟩
theorem tf45 : (CallT Tryz.prog 35 = True) ∧ (arT Tryz.prog 22 = none) ∧ (elT Tryz.prog 22 = some (3, 1, [.int .i64 0], 8)) ∧ (kdT Tryz.prog 3 = some 0) ∧ (ldT Tryz.prog 3 = some none) ∧ (ldT Tryz.prog 83 = some (some 4)) ∧ (offT Tryz.prog 83 0 = some 0) ∧ (offT Tryz.prog 83 1 = some 1) ∧ (offT Tryz.prog 83 2 = some 2) ∧ (slT Tryz.prog 22 = some (3, 1)) := ⟨eq_true Tryz.call35, tr7, tr17, tr34, tr50, tr61, tr120, tr121, tr122, tr149⟩
theorem tf46 : (CallT Tryz.prog 68 = True) := eq_true Tryz.call68
theorem tf47 : (CallT Tryz.prog 39 = True) ∧ (arT Tryz.prog 100 = none) ∧ (arT Tryz.prog 103 = none) ∧ (arT Tryz.prog 22 = none) ∧ (elT Tryz.prog 22 = some (3, 1, [.int .i64 0], 8)) ∧ (kdT Tryz.prog 3 = some 0) ∧ (ldT Tryz.prog 100 = some none) ∧ (ldT Tryz.prog 103 = some none) ∧ (ldT Tryz.prog 22 = some none) ∧ (ldT Tryz.prog 3 = some none) ∧ (ldT Tryz.prog 4 = some none) ∧ (ldT Tryz.prog 88 = some (some 5)) ∧ (offT Tryz.prog 25 2 = some 2) ∧ (offT Tryz.prog 88 0 = some 0) ∧ (offT Tryz.prog 90 0 = some 0) ∧ (slT Tryz.prog 100 = some (103, 1)) ∧ (slT Tryz.prog 103 = some (4, 1)) ∧ (slT Tryz.prog 22 = some (3, 1)) ∧ (szT Tryz.prog 3 = some 1) ∧ (zeroT Tryz.prog 3 = some [.int .i64 0]) := ⟨eq_true Tryz.call39, tr0, tr1, tr7, tr17, tr34, tr37, tr38, tr45, tr50, tr53, tr62, tr84, tr124, tr125, tr141, tr142, tr149, tr163, tr183⟩
theorem tf48 : (CallT Tryz.prog 71 = True) ∧ (CallT Tryz.prog 72 = True) ∧ (CallT Tryz.prog 73 = True) ∧ (CallT Tryz.prog 74 = True) ∧ (CallT Tryz.prog 75 = True) ∧ (CallT Tryz.prog 76 = True) ∧ (kdT Tryz.prog 3 = some 0) ∧ (ldT Tryz.prog 22 = some none) ∧ (ldT Tryz.prog 23 = some none) ∧ (ldT Tryz.prog 3 = some none) ∧ (offT Tryz.prog 25 0 = some 0) ∧ (offT Tryz.prog 25 1 = some 1) ∧ (offT Tryz.prog 25 2 = some 2) ∧ (offT Tryz.prog 25 3 = some 3) ∧ (offT Tryz.prog 25 4 = some 4) ∧ (slT Tryz.prog 22 = some (3, 1)) ∧ (slT Tryz.prog 23 = some (55, 2)) := ⟨eq_true Tryz.call71, eq_true Tryz.call72, eq_true Tryz.call73, eq_true Tryz.call74, eq_true Tryz.call75, eq_true Tryz.call76, tr34, tr45, tr46, tr50, tr82, tr83, tr84, tr85, tr86, tr149, tr150⟩
theorem tf49 : (CallT Tryz.prog 27 = True) ∧ (CallT Tryz.prog 77 = True) ∧ (ldT Tryz.prog 3 = some none) ∧ (offT Tryz.prog 27 0 = some 0) ∧ (offT Tryz.prog 27 1 = some 1) ∧ (offT Tryz.prog 27 2 = some 2) ∧ (offT Tryz.prog 27 3 = some 3) ∧ (offT Tryz.prog 27 4 = some 4) ∧ (offT Tryz.prog 27 5 = some 5) ∧ (offT Tryz.prog 27 6 = some 6) ∧ (placesT Tryz.prog 142 = some [(0, 1), (1, 1), (2, 1), (3, 1), (4, 1), (5, 1), (6, 1)]) ∧ (slT Tryz.prog 142 = none) ∧ (szT Tryz.prog 142 = some 7) ∧ (zeroT Tryz.prog 142 = some [.bool false, .bool false, .bool false, .bool false, .bool false, .bool false, .bool false]) := ⟨eq_true Tryz.call27, eq_true Tryz.call77, tr50, tr87, tr88, tr89, tr90, tr91, tr92, tr93, tr130, tr146, tr157, tr178⟩
theorem tf50 : (CallT Tryz.prog 48 = True) ∧ (CallT Tryz.prog 71 = True) ∧ (CallT Tryz.prog 78 = True) ∧ (arT Tryz.prog 22 = none) ∧ (arT Tryz.prog 23 = none) ∧ (kdT Tryz.prog 3 = some 0) ∧ (kdT Tryz.prog 35 = some 0) ∧ (ldT Tryz.prog 22 = some none) ∧ (ldT Tryz.prog 23 = some none) ∧ (ldT Tryz.prog 25 = some (some 5)) ∧ (ldT Tryz.prog 3 = some none) ∧ (ldT Tryz.prog 55 = some (some 2)) ∧ (offT Tryz.prog 25 2 = some 2) ∧ (offT Tryz.prog 25 3 = some 3) ∧ (offT Tryz.prog 25 4 = some 4) ∧ (offT Tryz.prog 29 0 = some 0) ∧ (offT Tryz.prog 29 1 = some 1) ∧ (offT Tryz.prog 29 2 = some 2) ∧ (offT Tryz.prog 29 3 = some 3) ∧ (offT Tryz.prog 29 4 = some 4) ∧ (offT Tryz.prog 55 0 = some 0) ∧ (offT Tryz.prog 55 1 = some 1) ∧ (offT Tryz.prog 88 0 = some 0) ∧ (placesT Tryz.prog 88 = some [(0, 5)]) ∧ (slT Tryz.prog 22 = some (3, 1)) ∧ (slT Tryz.prog 23 = some (55, 2)) ∧ (szT Tryz.prog 55 = some 2) ∧ (szT Tryz.prog 88 = some 5) ∧ (zeroT Tryz.prog 55 = some [.int .i64 0, .int .i64 0]) ∧ (zeroT Tryz.prog 88 = some [.int .i64 0, .int .i64 0, .slice none 0 0, .slice none 0 0, .slice none 0 0]) := ⟨eq_true Tryz.call48, eq_true Tryz.call71, eq_true Tryz.call78, tr7, tr8, tr34, tr35, tr45, tr46, tr47, tr50, tr58, tr84, tr85, tr86, tr94, tr95, tr96, tr97, tr98, tr118, tr119, tr124, tr139, tr149, tr150, tr168, tr170, tr188, tr191⟩
theorem tf51 : (CallT Tryz.prog 63 = True) ∧ (CallT Tryz.prog 64 = True) ∧ (elT Tryz.prog 22 = some (3, 1, [.int .i64 0], 8)) ∧ (kdT Tryz.prog 3 = some 0) ∧ (kdT Tryz.prog 35 = some 0) ∧ (ldT Tryz.prog 25 = some (some 5)) ∧ (ldT Tryz.prog 3 = some none) ∧ (ldT Tryz.prog 88 = some (some 5)) ∧ (offT Tryz.prog 55 0 = some 0) ∧ (offT Tryz.prog 55 1 = some 1) ∧ (placesT Tryz.prog 129 = some [(0, 1), (1, 1), (2, 1)]) ∧ (szT Tryz.prog 55 = some 2) ∧ (szT Tryz.prog 88 = some 5) ∧ (zeroT Tryz.prog 129 = some [.slice none 0 0, .slice none 0 0, .slice none 0 0]) ∧ (zeroT Tryz.prog 55 = some [.int .i64 0, .int .i64 0]) ∧ (zeroT Tryz.prog 88 = some [.int .i64 0, .int .i64 0, .slice none 0 0, .slice none 0 0, .slice none 0 0]) := ⟨eq_true Tryz.call63, eq_true Tryz.call64, tr17, tr34, tr35, tr47, tr50, tr62, tr118, tr119, tr129, tr168, tr170, tr176, tr188, tr191⟩
theorem tf52 : (CallT Tryz.prog 63 = True) ∧ (CallT Tryz.prog 66 = True) ∧ (CallT Tryz.prog 71 = True) ∧ (elT Tryz.prog 22 = some (3, 1, [.int .i64 0], 8)) ∧ (kdT Tryz.prog 35 = some 0) ∧ (ldT Tryz.prog 25 = some (some 5)) ∧ (ldT Tryz.prog 88 = some (some 5)) ∧ (placesT Tryz.prog 129 = some [(0, 1), (1, 1), (2, 1)]) ∧ (szT Tryz.prog 88 = some 5) ∧ (zeroT Tryz.prog 129 = some [.slice none 0 0, .slice none 0 0, .slice none 0 0]) ∧ (zeroT Tryz.prog 88 = some [.int .i64 0, .int .i64 0, .slice none 0 0, .slice none 0 0, .slice none 0 0]) := ⟨eq_true Tryz.call63, eq_true Tryz.call66, eq_true Tryz.call71, tr17, tr35, tr47, tr62, tr129, tr170, tr176, tr191⟩
theorem tf53 : (CallT Tryz.prog 79 = True) ∧ (elT Tryz.prog 22 = some (3, 1, [.int .i64 0], 8)) ∧ (intT Tryz.prog 145 = some .u64) ∧ (intT Tryz.prog 3 = some .i64) ∧ (kdT Tryz.prog 145 = some 0) ∧ (kdT Tryz.prog 3 = some 0) ∧ (slT Tryz.prog 22 = some (3, 1)) := ⟨eq_true Tryz.call79, tr17, tr22, tr26, tr28, tr34, tr149⟩
theorem tf57 : (arT Tryz.prog 103 = none) ∧ (arT Tryz.prog 123 = none) ∧ (arT Tryz.prog 151 = none) ∧ (arT Tryz.prog 152 = none) ∧ (arT Tryz.prog 22 = none) ∧ (elT Tryz.prog 22 = some (3, 1, [.int .i64 0], 8)) ∧ (kdT Tryz.prog 3 = some 0) ∧ (ldT Tryz.prog 103 = some none) ∧ (ldT Tryz.prog 150 = some (some 3)) ∧ (ldT Tryz.prog 151 = some none) ∧ (ldT Tryz.prog 152 = some none) ∧ (ldT Tryz.prog 22 = some none) ∧ (ldT Tryz.prog 3 = some none) ∧ (ldT Tryz.prog 4 = some none) ∧ (ldT Tryz.prog 45 = some (some 2)) ∧ (offT Tryz.prog 109 2 = some 12) ∧ (offT Tryz.prog 109 3 = some 13) ∧ (offT Tryz.prog 150 0 = some 0) ∧ (offT Tryz.prog 150 1 = some 1) ∧ (offT Tryz.prog 150 2 = some 2) ∧ (offT Tryz.prog 31 1 = some 1) ∧ (offT Tryz.prog 45 0 = some 0) ∧ (placesT Tryz.prog 45 = some [(0, 1), (1, 1)]) ∧ (slT Tryz.prog 103 = some (4, 1)) ∧ (slT Tryz.prog 123 = some (152, 1)) ∧ (slT Tryz.prog 151 = some (150, 3)) ∧ (slT Tryz.prog 152 = some (151, 1)) ∧ (slT Tryz.prog 22 = some (3, 1)) ∧ (szT Tryz.prog 150 = some 3) ∧ (szT Tryz.prog 3 = some 1) ∧ (szT Tryz.prog 45 = some 2) ∧ (zeroT Tryz.prog 150 = some [.int .i64 0, .int .i64 0, .int .i64 0]) ∧ (zeroT Tryz.prog 45 = some [.slice none 0 0, .int .i64 0]) := ⟨tr1, tr3, tr5, tr6, tr7, tr17, tr34, tr38, tr41, tr42, tr43, tr45, tr50, tr53, tr55, tr66, tr67, tr79, tr80, tr81, tr100, tr111, tr134, tr142, tr144, tr147, tr148, tr149, tr158, tr163, tr166, tr179, tr186⟩
theorem tf58 : (CallT Tryz.prog 84 = True) ∧ (CallT Tryz.prog 86 = True) ∧ (arT Tryz.prog 100 = none) ∧ (arT Tryz.prog 103 = none) ∧ (arT Tryz.prog 107 = none) ∧ (arT Tryz.prog 123 = none) ∧ (arT Tryz.prog 151 = none) ∧ (arT Tryz.prog 152 = none) ∧ (arT Tryz.prog 22 = none) ∧ (elT Tryz.prog 123 = some (152, 1, [.slice none 0 0], 24)) ∧ (kdT Tryz.prog 3 = some 0) ∧ (ldT Tryz.prog 100 = some none) ∧ (ldT Tryz.prog 103 = some none) ∧ (ldT Tryz.prog 107 = some none) ∧ (ldT Tryz.prog 150 = some (some 3)) ∧ (ldT Tryz.prog 151 = some none) ∧ (ldT Tryz.prog 152 = some none) ∧ (ldT Tryz.prog 22 = some none) ∧ (ldT Tryz.prog 23 = some none) ∧ (ldT Tryz.prog 3 = some none) ∧ (ldT Tryz.prog 31 = some (some 2)) ∧ (ldT Tryz.prog 4 = some none) ∧ (ldT Tryz.prog 69 = some none) ∧ (offT Tryz.prog 109 0 = some 0) ∧ (offT Tryz.prog 109 1 = some 5) ∧ (offT Tryz.prog 109 2 = some 12) ∧ (offT Tryz.prog 109 4 = some 14) ∧ (offT Tryz.prog 109 5 = some 15) ∧ (offT Tryz.prog 150 0 = some 0) ∧ (offT Tryz.prog 25 3 = some 3) ∧ (offT Tryz.prog 27 2 = some 2) ∧ (offT Tryz.prog 27 3 = some 3) ∧ (placesT Tryz.prog 150 = some [(0, 1), (1, 1), (2, 1)]) ∧ (slT Tryz.prog 100 = some (103, 1)) ∧ (slT Tryz.prog 103 = some (4, 1)) ∧ (slT Tryz.prog 107 = some (22, 1)) ∧ (slT Tryz.prog 123 = some (152, 1)) ∧ (slT Tryz.prog 151 = some (150, 3)) ∧ (slT Tryz.prog 152 = some (151, 1)) ∧ (slT Tryz.prog 22 = some (3, 1)) ∧ (slT Tryz.prog 23 = some (55, 2)) ∧ (szT Tryz.prog 150 = some 3) ∧ (szT Tryz.prog 3 = some 1) ∧ (zeroT Tryz.prog 150 = some [.int .i64 0, .int .i64 0, .int .i64 0]) := ⟨eq_true Tryz.call84, eq_true Tryz.call86, tr0, tr1, tr2, tr3, tr5, tr6, tr7, tr14, tr34, tr37, tr38, tr39, tr41, tr42, tr43, tr45, tr46, tr50, tr51, tr53, tr60, tr64, tr65, tr66, tr68, tr69, tr79, tr85, tr89, tr90, tr131, tr141, tr142, tr143, tr144, tr147, tr148, tr149, tr150, tr158, tr163, tr179⟩
theorem tf60 : (arT Tryz.prog 50 = none) ∧ (kdT Tryz.prog 3 = some 0) ∧ (ldT Tryz.prog 49 = some (some 5)) ∧ (slT Tryz.prog 50 = some (49, 5)) ∧ (szT Tryz.prog 49 = some 5) ∧ (zeroT Tryz.prog 49 = some [.int .i64 0, .int .i64 0, .int .i64 0, .bool false, .slice none 0 0]) := ⟨tr9, tr34, tr56, tr151, tr167, tr187⟩
theorem tf61 : (CallT Tryz.prog 31 = True) ∧ (CallT Tryz.prog 80 = True) ∧ (CallT Tryz.prog 81 = True) ∧ (CallT Tryz.prog 82 = True) ∧ (CallT Tryz.prog 89 = True) ∧ (CallT Tryz.prog 90 = True) ∧ (arT Tryz.prog 107 = none) ∧ (arT Tryz.prog 22 = none) ∧ (kdT Tryz.prog 3 = some 0) ∧ (ldT Tryz.prog 107 = some none) ∧ (ldT Tryz.prog 22 = some none) ∧ (ldT Tryz.prog 23 = some none) ∧ (ldT Tryz.prog 3 = some none) ∧ (offT Tryz.prog 117 0 = some 0) ∧ (offT Tryz.prog 117 2 = some 6) ∧ (offT Tryz.prog 25 3 = some 3) ∧ (offT Tryz.prog 49 0 = some 0) ∧ (offT Tryz.prog 49 1 = some 1) ∧ (offT Tryz.prog 49 2 = some 2) ∧ (offT Tryz.prog 49 4 = some 4) ∧ (slT Tryz.prog 107 = some (22, 1)) ∧ (slT Tryz.prog 22 = some (3, 1)) ∧ (slT Tryz.prog 23 = some (55, 2)) := ⟨eq_true Tryz.call31, eq_true Tryz.call80, eq_true Tryz.call81, eq_true Tryz.call82, eq_true Tryz.call89, eq_true Tryz.call90, tr2, tr7, tr34, tr39, tr45, tr46, tr50, tr70, tr72, tr85, tr113, tr114, tr115, tr117, tr143, tr149, tr150⟩
theorem tf62 : (arT Tryz.prog 50 = none) ∧ (kdT Tryz.prog 3 = some 0) ∧ (ldT Tryz.prog 49 = some (some 5)) ∧ (slT Tryz.prog 50 = some (49, 5)) := ⟨tr9, tr34, tr56, tr151⟩
theorem tf63 : (CallT Tryz.prog 48 = True) ∧ (CallT Tryz.prog 75 = True) ∧ (CallT Tryz.prog 91 = True) ∧ (CallT Tryz.prog 92 = True) ∧ (CallT Tryz.prog 93 = True) ∧ (kdT Tryz.prog 35 = some 0) ∧ (ldT Tryz.prog 22 = some none) ∧ (ldT Tryz.prog 25 = some (some 5)) ∧ (ldT Tryz.prog 88 = some (some 5)) ∧ (offT Tryz.prog 129 0 = some 0) ∧ (offT Tryz.prog 129 1 = some 1) ∧ (offT Tryz.prog 129 2 = some 2) ∧ (placesT Tryz.prog 88 = some [(0, 5)]) ∧ (szT Tryz.prog 88 = some 5) ∧ (zeroT Tryz.prog 88 = some [.int .i64 0, .int .i64 0, .slice none 0 0, .slice none 0 0, .slice none 0 0]) := ⟨eq_true Tryz.call48, eq_true Tryz.call75, eq_true Tryz.call91, eq_true Tryz.call92, eq_true Tryz.call93, tr35, tr45, tr47, tr62, tr73, tr74, tr75, tr139, tr170, tr191⟩
theorem tf64 : (arT Tryz.prog 22 = none) ∧ (arT Tryz.prog 23 = none) ∧ (kdT Tryz.prog 3 = some 0) ∧ (ldT Tryz.prog 22 = some none) ∧ (ldT Tryz.prog 23 = some none) ∧ (ldT Tryz.prog 3 = some none) ∧ (ldT Tryz.prog 55 = some (some 2)) ∧ (offT Tryz.prog 25 2 = some 2) ∧ (offT Tryz.prog 25 3 = some 3) ∧ (offT Tryz.prog 25 4 = some 4) ∧ (offT Tryz.prog 55 0 = some 0) ∧ (offT Tryz.prog 55 1 = some 1) ∧ (offT Tryz.prog 88 0 = some 0) ∧ (placesT Tryz.prog 55 = some [(0, 1), (1, 1)]) ∧ (slT Tryz.prog 22 = some (3, 1)) ∧ (slT Tryz.prog 23 = some (55, 2)) ∧ (szT Tryz.prog 55 = some 2) ∧ (zeroT Tryz.prog 55 = some [.int .i64 0, .int .i64 0]) := ⟨tr7, tr8, tr34, tr45, tr46, tr50, tr58, tr84, tr85, tr86, tr118, tr119, tr124, tr136, tr149, tr150, tr168, tr188⟩
theorem tf65 : (CallT Tryz.prog 66 = True) ∧ (kdT Tryz.prog 3 = some 0) ∧ (ldT Tryz.prog 3 = some none) ∧ (ldT Tryz.prog 88 = some (some 5)) := ⟨eq_true Tryz.call66, tr34, tr50, tr62⟩
theorem tf66 : (CallT Tryz.prog 71 = True) ∧ (arT Tryz.prog 133 = some (6, 3, some 3)) ∧ (kdT Tryz.prog 3 = some 0) ∧ (ldT Tryz.prog 132 = some (some 3)) ∧ (ldT Tryz.prog 3 = some none) ∧ (offT Tryz.prog 132 0 = some 0) ∧ (offT Tryz.prog 132 1 = some 1) ∧ (offT Tryz.prog 132 2 = some 2) ∧ (offT Tryz.prog 25 0 = some 0) ∧ (offT Tryz.prog 25 1 = some 1) ∧ (offT Tryz.prog 88 0 = some 0) ∧ (slT Tryz.prog 133 = none) ∧ (szT Tryz.prog 132 = some 3) ∧ (zeroT Tryz.prog 132 = some [.int .i64 0, .int .i64 0, .int .i64 0]) := ⟨eq_true Tryz.call71, tr4, tr34, tr40, tr50, tr76, tr77, tr78, tr82, tr83, tr124, tr145, tr156, tr177⟩
theorem tf67 : (CallT Tryz.prog 40 = True) := eq_true Tryz.call40
theorem tf68 : (CallT Tryz.prog 69 = True) ∧ (CallT Tryz.prog 70 = True) ∧ (kdT Tryz.prog 3 = some 0) ∧ (ldT Tryz.prog 23 = some none) ∧ (ldT Tryz.prog 3 = some none) ∧ (ldT Tryz.prog 90 = some (some 6)) ∧ (offT Tryz.prog 25 3 = some 3) ∧ (offT Tryz.prog 88 0 = some 0) ∧ (offT Tryz.prog 90 0 = some 0) ∧ (slT Tryz.prog 23 = some (55, 2)) ∧ (szT Tryz.prog 3 = some 1) := ⟨eq_true Tryz.call69, eq_true Tryz.call70, tr34, tr46, tr50, tr63, tr85, tr124, tr125, tr150, tr163⟩
theorem tf69 : (CallT Tryz.prog 38 = True) ∧ (arT Tryz.prog 103 = none) ∧ (elT Tryz.prog 103 = some (4, 1, [.bool false], 1)) ∧ (ldT Tryz.prog 22 = some none) ∧ (ldT Tryz.prog 90 = some (some 6)) ∧ (offT Tryz.prog 25 2 = some 2) ∧ (offT Tryz.prog 88 0 = some 0) ∧ (offT Tryz.prog 90 0 = some 0) ∧ (slT Tryz.prog 103 = some (4, 1)) ∧ (slT Tryz.prog 22 = some (3, 1)) ∧ (szT Tryz.prog 4 = some 1) := ⟨eq_true Tryz.call38, tr1, tr12, tr45, tr63, tr84, tr124, tr125, tr142, tr149, tr165⟩
theorem tf70 : (CallT Tryz.prog 38 = True) ∧ (CallT Tryz.prog 39 = True) ∧ (arT Tryz.prog 103 = none) ∧ (elT Tryz.prog 103 = some (4, 1, [.bool false], 1)) ∧ (kdT Tryz.prog 3 = some 0) ∧ (ldT Tryz.prog 103 = some none) ∧ (ldT Tryz.prog 3 = some none) ∧ (ldT Tryz.prog 4 = some none) ∧ (ldT Tryz.prog 88 = some (some 5)) ∧ (ldT Tryz.prog 90 = some (some 6)) ∧ (offT Tryz.prog 90 0 = some 0) ∧ (slT Tryz.prog 103 = some (4, 1)) ∧ (szT Tryz.prog 103 = some 1) ∧ (szT Tryz.prog 4 = some 1) ∧ (zeroT Tryz.prog 103 = some [.slice none 0 0]) := ⟨eq_true Tryz.call38, eq_true Tryz.call39, tr1, tr12, tr34, tr38, tr50, tr53, tr62, tr63, tr125, tr142, tr154, tr165, tr173⟩
theorem tf71 : (kdT Tryz.prog 3 = some 0) := tr34
theorem tf72 : (CallT Tryz.prog 71 = True) := eq_true Tryz.call71
theorem tf73 : (kdT Tryz.prog 3 = some 0) ∧ (ldT Tryz.prog 3 = some none) ∧ (offT Tryz.prog 55 0 = some 0) ∧ (offT Tryz.prog 55 1 = some 1) := ⟨tr34, tr50, tr118, tr119⟩
theorem tf74 : (CallT Tryz.prog 71 = True) := eq_true Tryz.call71
theorem tf75 : (CallT Tryz.prog 94 = True) ∧ (kdT Tryz.prog 3 = some 0) := ⟨eq_true Tryz.call94, tr34⟩
theorem tf76 : (CallT Tryz.prog 95 = True) ∧ (kdT Tryz.prog 3 = some 0) := ⟨eq_true Tryz.call95, tr34⟩
theorem tf77 : (CallT Tryz.prog 96 = True) ∧ (kdT Tryz.prog 3 = some 0) := ⟨eq_true Tryz.call96, tr34⟩
theorem tf78 : (arT Tryz.prog 23 = none) ∧ (elT Tryz.prog 23 = some (55, 2, [.int .i64 0, .int .i64 0], 16)) ∧ (kdT Tryz.prog 3 = some 0) ∧ (ldT Tryz.prog 3 = some none) ∧ (offT Tryz.prog 55 1 = some 1) ∧ (placesT Tryz.prog 55 = some [(0, 1), (1, 1)]) ∧ (slT Tryz.prog 23 = some (55, 2)) ∧ (szT Tryz.prog 3 = some 1) ∧ (zeroT Tryz.prog 55 = some [.int .i64 0, .int .i64 0]) := ⟨tr8, tr18, tr34, tr50, tr119, tr136, tr150, tr163, tr188⟩
theorem tf79 : (CallT Tryz.prog 97 = True) ∧ (CallT Tryz.prog 98 = True) ∧ (intT Tryz.prog 145 = some .u64) ∧ (intT Tryz.prog 163 = some .u32) := ⟨eq_true Tryz.call97, eq_true Tryz.call98, tr22, tr23⟩
theorem tf80 : (CallT Tryz.prog 30 = True) ∧ (kdT Tryz.prog 3 = some 0) ∧ (ldT Tryz.prog 23 = some none) ∧ (offT Tryz.prog 117 0 = some 0) ∧ (offT Tryz.prog 25 3 = some 3) ∧ (slT Tryz.prog 23 = some (55, 2)) := ⟨eq_true Tryz.call30, tr34, tr46, tr70, tr85, tr150⟩
theorem tf81 : (CallT Tryz.prog 30 = True) ∧ (kdT Tryz.prog 3 = some 0) := ⟨eq_true Tryz.call30, tr34⟩
theorem tf82 : (CallT Tryz.prog 51 = True) ∧ (kdT Tryz.prog 3 = some 0) ∧ (kdT Tryz.prog 35 = some 0) ∧ (ldT Tryz.prog 25 = some (some 5)) ∧ (offT Tryz.prog 117 0 = some 0) := ⟨eq_true Tryz.call51, tr34, tr35, tr47, tr70⟩
theorem tf84 : (CallT Tryz.prog 85 = True) ∧ (arT Tryz.prog 152 = none) ∧ (elT Tryz.prog 151 = some (150, 3, [.int .i64 0, .int .i64 0, .int .i64 0], 24)) ∧ (elT Tryz.prog 152 = some (151, 1, [.slice none 0 0], 24)) ∧ (kdT Tryz.prog 3 = some 0) ∧ (ldT Tryz.prog 22 = some none) ∧ (ldT Tryz.prog 3 = some none) ∧ (ldT Tryz.prog 69 = some none) ∧ (offT Tryz.prog 109 0 = some 0) ∧ (offT Tryz.prog 25 2 = some 2) ∧ (offT Tryz.prog 31 1 = some 1) ∧ (placesT Tryz.prog 150 = some [(0, 1), (1, 1), (2, 1)]) ∧ (slT Tryz.prog 152 = some (151, 1)) ∧ (slT Tryz.prog 22 = some (3, 1)) ∧ (szT Tryz.prog 151 = some 1) ∧ (zeroT Tryz.prog 150 = some [.int .i64 0, .int .i64 0, .int .i64 0]) := ⟨eq_true Tryz.call85, tr6, tr15, tr16, tr34, tr45, tr50, tr60, tr64, tr84, tr100, tr131, tr148, tr149, tr159, tr179⟩
theorem tf85 : (CallT Tryz.prog 79 = True) ∧ (elT Tryz.prog 151 = some (150, 3, [.int .i64 0, .int .i64 0, .int .i64 0], 24)) ∧ (intT Tryz.prog 145 = some .u64) ∧ (intT Tryz.prog 3 = some .i64) ∧ (kdT Tryz.prog 145 = some 0) ∧ (kdT Tryz.prog 3 = some 0) ∧ (slT Tryz.prog 151 = some (150, 3)) := ⟨eq_true Tryz.call79, tr15, tr22, tr26, tr28, tr34, tr147⟩
theorem tf86 : (kdT Tryz.prog 3 = some 0) ∧ (ldT Tryz.prog 3 = some none) ∧ (offT Tryz.prog 31 0 = some 0) ∧ (offT Tryz.prog 31 1 = some 1) := ⟨tr34, tr50, tr99, tr100⟩
theorem tf89 : (arT Tryz.prog 22 = none) ∧ (kdT Tryz.prog 3 = some 0) ∧ (ldT Tryz.prog 3 = some none) ∧ (slT Tryz.prog 22 = some (3, 1)) := ⟨tr7, tr34, tr50, tr149⟩
theorem tf90 : (CallT Tryz.prog 110 = True) ∧ (kdT Tryz.prog 3 = some 0) := ⟨eq_true Tryz.call110, tr34⟩
theorem tf91 : (CallT Tryz.prog 71 = True) ∧ (kdT Tryz.prog 3 = some 0) ∧ (ldT Tryz.prog 22 = some none) ∧ (offT Tryz.prog 25 2 = some 2) ∧ (slT Tryz.prog 22 = some (3, 1)) := ⟨eq_true Tryz.call71, tr34, tr45, tr84, tr149⟩
theorem tf92 : (CallT Tryz.prog 71 = True) ∧ (kdT Tryz.prog 3 = some 0) ∧ (ldT Tryz.prog 23 = some none) ∧ (offT Tryz.prog 25 3 = some 3) ∧ (slT Tryz.prog 23 = some (55, 2)) := ⟨eq_true Tryz.call71, tr34, tr46, tr85, tr150⟩
theorem tf93 : (CallT Tryz.prog 71 = True) := eq_true Tryz.call71
theorem tf94 : (arT Tryz.prog 22 = none) ∧ (kdT Tryz.prog 3 = some 0) ∧ (ldT Tryz.prog 3 = some none) ∧ (slT Tryz.prog 22 = some (3, 1)) := ⟨tr7, tr34, tr50, tr149⟩
theorem tf95 : (arT Tryz.prog 23 = none) ∧ (kdT Tryz.prog 3 = some 0) ∧ (ldT Tryz.prog 55 = some (some 2)) ∧ (slT Tryz.prog 23 = some (55, 2)) := ⟨tr8, tr34, tr58, tr150⟩
theorem tf96 : (arT Tryz.prog 103 = none) ∧ (kdT Tryz.prog 3 = some 0) ∧ (kdT Tryz.prog 4 = some 1) ∧ (ldT Tryz.prog 4 = some none) ∧ (slT Tryz.prog 103 = some (4, 1)) := ⟨tr1, tr34, tr36, tr53, tr142⟩
theorem tf98 : (kdT Tryz.prog 166 = some 0) := tr30
theorem tf110 : (arT Tryz.prog 22 = none) ∧ (kdT Tryz.prog 3 = some 0) ∧ (ldT Tryz.prog 3 = some none) ∧ (slT Tryz.prog 22 = some (3, 1)) := ⟨tr7, tr34, tr50, tr149⟩
theorem res4 : Tryz.f4.results.toList = [.tmp 6] := by kernel_rfl
theorem res5 : Tryz.f5.results.toList = [.tmp 2] := by kernel_rfl
theorem res6 : Tryz.f6.results.toList = [.tmp 12] := by kernel_rfl
theorem res7 : Tryz.f7.results.toList = [.tmp 0] := by kernel_rfl
theorem res10 : Tryz.f10.results.toList = [.tmp 12, .cell 13 45, .tmp 14] := by kernel_rfl
theorem res11 : Tryz.f11.results.toList = [.tmp 4] := by kernel_rfl
theorem res12 : Tryz.f12.results.toList = [.tmp 8, .tmp 9] := by kernel_rfl
theorem res13 : Tryz.f13.results.toList = [.tmp 10, .tmp 11] := by kernel_rfl
theorem res14 : Tryz.f14.results.toList = [.tmp 2] := by kernel_rfl
theorem res15 : Tryz.f15.results.toList = [.tmp 2] := by kernel_rfl
theorem res16 : Tryz.f16.results.toList = [.tmp 6] := by kernel_rfl
theorem res17 : Tryz.f17.results.toList = [.tmp 4] := by kernel_rfl
theorem res18 : Tryz.f18.results.toList = [.tmp 6] := by kernel_rfl
theorem res19 : Tryz.f19.results.toList = [.tmp 4] := by kernel_rfl
theorem res20 : Tryz.f20.results.toList = [.cell 0 25, .tmp 1] := by kernel_rfl
theorem res21 : Tryz.f21.results.toList = [.tmp 4, .tmp 5] := by kernel_rfl
theorem res22 : Tryz.f22.results.toList = [.cell 10 22, .cell 11 35] := by kernel_rfl
theorem res23 : Tryz.f23.results.toList = [.tmp 10, .tmp 11] := by kernel_rfl
theorem res24 : Tryz.f24.results.toList = [.tmp 4] := by kernel_rfl
theorem res27 : Tryz.f27.results.toList = [.tmp 6] := by kernel_rfl
theorem res28 : Tryz.f28.results.toList = [.tmp 8, .cell 9 45] := by kernel_rfl
theorem res29 : Tryz.f29.results.toList = [.tmp 4, .tmp 5] := by kernel_rfl
theorem res30 : Tryz.f30.results.toList = [.tmp 6] := by kernel_rfl
theorem res31 : Tryz.f31.results.toList = [.tmp 4] := by kernel_rfl
theorem res32 : Tryz.f32.results.toList = [.tmp 4] := by kernel_rfl
theorem res33 : Tryz.f33.results.toList = [.tmp 5] := by kernel_rfl
theorem res34 : Tryz.f34.results.toList = [.cell 4 83, .tmp 5] := by kernel_rfl
theorem res35 : Tryz.f35.results.toList = [.tmp 4] := by kernel_rfl
theorem res36 : Tryz.f36.results.toList = [.cell 8 90, .tmp 9] := by kernel_rfl
theorem res37 : Tryz.f37.results.toList = [.tmp 4] := by kernel_rfl
theorem res38 : Tryz.f38.results.toList = [.tmp 6] := by kernel_rfl
theorem res39 : Tryz.f39.results.toList = [.tmp 4] := by kernel_rfl
theorem res40 : Tryz.f40.results.toList = [.tmp 6] := by kernel_rfl
theorem res41 : Tryz.f41.results.toList = [.tmp 2] := by kernel_rfl
theorem res42 : Tryz.f42.results.toList = [.tmp 4] := by kernel_rfl
theorem res43 : Tryz.f43.results.toList = [.tmp 4] := by kernel_rfl
theorem res44 : Tryz.f44.results.toList = [.cell 0 25] := by kernel_rfl
theorem res45 : Tryz.f45.results.toList = [.tmp 4] := by kernel_rfl
theorem res46 : Tryz.f46.results.toList = [.tmp 6] := by kernel_rfl
theorem res47 : Tryz.f47.results.toList = [.tmp 6] := by kernel_rfl
theorem res48 : Tryz.f48.results.toList = [.tmp 2] := by kernel_rfl
theorem res49 : Tryz.f49.results.toList = [.tmp 2] := by kernel_rfl
theorem res50 : Tryz.f50.results.toList = [.tmp 4, .tmp 5, .tmp 6] := by kernel_rfl
theorem res51 : Tryz.f51.results.toList = [.tmp 8, .tmp 9, .tmp 10] := by kernel_rfl
theorem res52 : Tryz.f52.results.toList = [.tmp 6, .tmp 7] := by kernel_rfl
theorem res53 : Tryz.f53.results.toList = [.tmp 4] := by kernel_rfl
theorem res57 : Tryz.f57.results.toList = [.cell 8 45, .tmp 9] := by kernel_rfl
theorem res58 : Tryz.f58.results.toList = [.tmp 6] := by kernel_rfl
theorem res60 : Tryz.f60.results.toList = [.tmp 4] := by kernel_rfl
theorem res61 : Tryz.f61.results.toList = [.tmp 4] := by kernel_rfl
theorem res62 : Tryz.f62.results.toList = [.tmp 4] := by kernel_rfl
theorem res63 : Tryz.f63.results.toList = [.cell 4 88, .tmp 5] := by kernel_rfl
theorem res64 : Tryz.f64.results.toList = [.cell 6 55] := by kernel_rfl
theorem res65 : Tryz.f65.results.toList = [] := by kernel_rfl
theorem res66 : Tryz.f66.results.toList = [.tmp 6, .tmp 7] := by kernel_rfl
theorem res67 : Tryz.f67.results.toList = [.tmp 2] := by kernel_rfl
theorem res68 : Tryz.f68.results.toList = [] := by kernel_rfl
theorem res69 : Tryz.f69.results.toList = [.tmp 6] := by kernel_rfl
theorem res70 : Tryz.f70.results.toList = [.tmp 6] := by kernel_rfl
theorem res71 : Tryz.f71.results.toList = [.tmp 6] := by kernel_rfl
theorem res72 : Tryz.f72.results.toList = [.tmp 2] := by kernel_rfl
theorem res73 : Tryz.f73.results.toList = [.tmp 2] := by kernel_rfl
theorem res74 : Tryz.f74.results.toList = [.tmp 2] := by kernel_rfl
theorem res75 : Tryz.f75.results.toList = [.tmp 4] := by kernel_rfl
theorem res76 : Tryz.f76.results.toList = [.tmp 4] := by kernel_rfl
theorem res77 : Tryz.f77.results.toList = [.tmp 4] := by kernel_rfl
theorem res78 : Tryz.f78.results.toList = [.tmp 4] := by kernel_rfl
theorem res79 : Tryz.f79.results.toList = [.tmp 4, .tmp 5] := by kernel_rfl
theorem res80 : Tryz.f80.results.toList = [.tmp 4] := by kernel_rfl
theorem res81 : Tryz.f81.results.toList = [.tmp 4] := by kernel_rfl
theorem res82 : Tryz.f82.results.toList = [.tmp 10] := by kernel_rfl
theorem res84 : Tryz.f84.results.toList = [.tmp 2] := by kernel_rfl
theorem res85 : Tryz.f85.results.toList = [.tmp 4] := by kernel_rfl
theorem res86 : Tryz.f86.results.toList = [.tmp 6] := by kernel_rfl
theorem res89 : Tryz.f89.results.toList = [.tmp 4] := by kernel_rfl
theorem res90 : Tryz.f90.results.toList = [.tmp 4] := by kernel_rfl
theorem res91 : Tryz.f91.results.toList = [.tmp 3] := by kernel_rfl
theorem res92 : Tryz.f92.results.toList = [.tmp 3] := by kernel_rfl
theorem res93 : Tryz.f93.results.toList = [.tmp 2] := by kernel_rfl
theorem res94 : Tryz.f94.results.toList = [.tmp 4] := by kernel_rfl
theorem res95 : Tryz.f95.results.toList = [.tmp 4] := by kernel_rfl
theorem res96 : Tryz.f96.results.toList = [.tmp 4] := by kernel_rfl
theorem res98 : Tryz.f98.results.toList = [.tmp 4, .tmp 5] := by kernel_rfl
theorem res110 : Tryz.f110.results.toList = [.tmp 4] := by kernel_rfl
noncomputable abbrev EV (w : World) (X : Nat → Prop) (re : List Nat) (ord : List (Nat × Plan)) (det : Nat → List Value → Option Value) (cuts : List Nat) : Env := { P := Tryz.prog, w0 := ⟨w, X⟩, re := re, ord := ord, det := det, cuts := cuts }
abbrev I (n : Int) : Value := .int .i64 n
theorem mixed_prog : Tryz.prog.follows .mixedOrders = true := by kernel_rfl
theorem walkC {f : Nat} {fn : Func} {c : Code} {args : List Value} {n : Nat} {rs : List ResultVar} {Post : Value → List HO → Prop} {w : World} {X : Nat → Prop} (cuts : List Nat) (re : List Nat) (ord : List (Nat × Plan)) {det : Nat → List Value → Option Value} (hD : DetFn Tryz.prog ⟨w, X⟩ det)
    (hf : Tryz.prog.funcs[f]? = some fn) (hb : fn.body = some c) (hn : fn.ntmps = n) (hr : fn.results.toList = rs) (hok : codeB ord c = true) {H0 : List HO}
    (h0 : (∀ h ∈ H0, h.ok w) ∧ (∀ h ∈ H0, ∀ b, h.fp b → X b) ∧ H0.Pairwise Apart)
    (h : W (EV w X re ord det cuts) c (retQ (EV w X re ord det cuts) rs Post) (args.map SV.v ++ List.replicate (n - args.length) (.v undef)) [] H0) : SX.Fn Tryz.prog f args w X Post := by
  subst hn hr
  exact SX.Fn.intro (E := EV w X re ord det cuts) hf hb trivial hD mixed_prog hok h0 h
theorem walk {f : Nat} {fn : Func} {c : Code} {args : List Value} {n : Nat} {rs : List ResultVar} {Post : Value → List HO → Prop} {w : World} {X : Nat → Prop} (re : List Nat) (ord : List (Nat × Plan)) {det : Nat → List Value → Option Value} (hD : DetFn Tryz.prog ⟨w, X⟩ det)
    (hf : Tryz.prog.funcs[f]? = some fn) (hb : fn.body = some c) (hn : fn.ntmps = n) (hr : fn.results.toList = rs) (hok : codeB ord c = true) {H0 : List HO}
    (h0 : (∀ h ∈ H0, h.ok w) ∧ (∀ h ∈ H0, ∀ b, h.fp b → X b) ∧ H0.Pairwise Apart)
    (h : W (EV w X re ord det []) c (retQ (EV w X re ord det []) rs Post) (args.map SV.v ++ List.replicate (n - args.length) (.v undef)) [] H0) : SX.Fn Tryz.prog f args w X Post :=
  walkC [] re ord hD hf hb hn hr hok h0 h
theorem walkIterR {gf : Nat} {fn : Func} {c : Code} {pre post : List Value} {nt n : Nat} {arg : Nat → List Value → List HO → Prop} {w : World} (Rs : Nat → Prop) (re : List Nat) (ord : List (Nat × Plan)) {det : Nat → List Value → Option Value} (hD : ∀ X, (∀ b, Rs b → ¬ X b) → DetFn Tryz.prog ⟨w, X⟩ det)
    (hf : Tryz.prog.funcs[gf]? = some fn) (hb : fn.body = some c) (hn : fn.ntmps = nt) (hr : fn.results.toList = []) (hok : codeB ord c = true)
    (h : ∀ l J C R, (∀ b, Rs b → ¬ (C b ∨ False)) → Handler Tryz.prog l n arg w C (fun _ => False) J → W (EV w (fun b => C b ∨ False) re ord det []) c (retQ (EV w (fun b => C b ∨ False) re ord det []) [] (iterPost n J)) ((pre ++ [Value.func (.yield l) #[] #[]] ++ post).map SV.v ++ List.replicate (nt - (pre ++ [Value.func (.yield l) #[] #[]] ++ post).length) (.v undef)) [] [consu J (some 0) C R]) :
    Iter Tryz.prog gf pre post n arg (fun _ => False) Rs w := by
  refine Iter.intro fun l J C R hRs hH hk => ?_
  have hRs' : ∀ b, Rs b → ¬ (C b ∨ False) := fun b hb hc => hc.elim (hRs b hb) id
  have hw := h l J C R hRs' hH
  rw [← hr] at hw
  subst hn
  exact Fn.introZ (E := EV w (fun b => C b ∨ False) re ord det []) (fun b => C b ∨ R b) hf hb trivial (hD _ hRs') mixed_prog hok ⟨fun g hg => by rw [List.mem_singleton] at hg; subst hg; exact hk, fun g hg b => by rw [List.mem_singleton] at hg; subst hg; exact ⟨id, fun x => .inl x⟩, List.pairwise_singleton _ _⟩ hw
theorem no_facts {w : World} {X : Nat → Prop} : (∀ h ∈ ([] : List HO), h.ok w) ∧ (∀ h ∈ ([] : List HO), ∀ b, h.fp b → X b) ∧ ([] : List HO).Pairwise Apart := ⟨by simp, by simp, List.Pairwise.nil⟩
theorem wrap_id {n : Int} (h : -9223372036854775808 ≤ n ∧ n ≤ 9223372036854775807) : IntKind.i64.wrap n = n := by
  rw [IntKind.wrap_i64]
  omega
end Go.Proofs.YtogicfoigeongaaGreatDoor

